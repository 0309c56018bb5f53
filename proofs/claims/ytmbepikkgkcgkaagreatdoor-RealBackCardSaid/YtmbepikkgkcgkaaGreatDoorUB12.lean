/- Merged and shortened by a program: part 12. -/
import Derived.Test.YtmbepikkgkcgkaaGreatDoorUB11
set_option maxRecDepth 100000
set_option maxHeartbeats 8000000
namespace Go.Proofs.YtmbepikkgkcgkaaGreatDoor
open Go.ChangeShapes Go.WideShapes Go.ChangeAt Go.RowKit
variable {g r : Prop}
open Go.Proofs.Tryz
end Go.Proofs.YtmbepikkgkcgkaaGreatDoor
namespace Go.Proofs.YtmbepikkgkcgkaaGreatDoor
open Go.RowKit
variable {g r : Prop}
open Go.Proofs.Tryz
theorem Pe{L t:List Nd}{i:Nat}(h:i<L.length):Aa (L++t) i=Aa L i:=by
 unfold Aa
 rw [Gd,if_pos h]
theorem Vq(L L':List Nd):∀(n:Nat) (c:List Bool),(∀k,k<n→Aa L k=Aa L' k)→W7 L n c=W7 L' n c
 |0,_,_=>rfl
 |n+1,c,h=>by
  unfold W7
  rw [h n (Nat.lt_succ_self n),Vq L L' n _ fun k hk=>h k O_,Vq L L' n c fun k hk=>h k O_]
theorem Wd(X:Nd→(Int→AB 8)→AB 8×Nat)(L L':List Nd):∀(l:List Int) (D:Dn),(∀k∈l,∀g,Iv X L g (Aa L k.toNat)=Iv X L' g (Aa L' k.toNat))→FM X L l D=FM X L' l D
 |[],_,_=>rfl
 |k::l,D,h=>by
  rw [FM.eq_2,FM.eq_2,h k List.mem_cons_self,Wd X L L' l _ fun x hx=>h x (List.mem_cons_of_mem _ hx)]
theorem pI{a:List Int}{j:Nat}(h:j<a.length):AX a j∈a:=by simp [AX,h]
theorem SO{X:Nd→(Int→AB 8)→AB 8×Nat}{L t:List Nd}(hA:C2 L){i:Nat}(hi:i<L.length):BU X (L++t) i=BU X L i:=by
 have hb:BF (L++t) i=BF L i:=by
  unfold BF
  rw [Vq (L++t) L _ _ fun k hk=>Pe O_]
 have hr:FM X (L++t) (BF L i) []=FM X L (BF L i) []:=Wd _ _ _ _ _ fun k hk g=>by
  have hkr:=Dr L i k hk
  have hkl:k.toNat<L.length:=by omega
  have hnd:=hA.nd hkl
  rw [Pe hkl]
  unfold Iv
  by_cases h7:(Aa L k.toNat).k=7
  ·have h2:=hnd.len.1
   rw [h7] at h2
   have h3:=hnd.args _ (pI (j:=0) (show 0<(Aa L k.toNat).a.length from Nat.lt_of_lt_of_le D_ h2))
   rw [Pe (t:=t) (i:=(AX (Aa L k.toNat).a 0).toNat) O_]
  ·rw [if_neg (show ¬((Aa L k.toNat).k=7∧ ¬(Aa (L++t) (AX (Aa L k.toNat).a 0).toNat).k=5) from fun h=>h7 h.1),if_neg (show ¬((Aa L k.toNat).k=7∧ ¬(Aa L (AX (Aa L k.toNat).a 0).toNat).k=5) from fun h=>h7 h.1)]
 unfold BU
 rw [hb,hr]
theorem cC{L:List Nd}(hA:C2 L){x:Nat}(hx:x<L.length)(h:(BU Cz L x).2=0):(bt Cz L x).2=0∧(bt Cz L x).1=(BU Cz L x).1:=by
 rcases Jt Gi hA hx with ⟨h1,h2⟩ | ⟨k,_,h1,h2⟩
 ·have:=h1 _ (G3 L x)
  rw [Int.toNat_natCast] at this
  exact ⟨this,by rw [h2]⟩
 ·rw [h2] at h
  exact absurd h h1
theorem Ui{L:List Nd}(hA:C2 L){s:Nat}(hs:s<L.length)(ha:∀x∈(Aa L s).a,(BU Cz L x.toNat).2=0)(h:(Iv Cz L (fun x=>(BU Cz L x.toNat).1) (Aa L s)).2=0):BU Cz L s=((Iv Cz L (fun x=>(BU Cz L x.toNat).1) (Aa L s)).1,0):=by
 have hnd:=hA.nd hs
 have e:bt Cz L s=Iv Cz L (fun x=>(BU Cz L x.toNat).1) (Aa L s):=by
  rw [bV Gi hA hs]
  refine V0 Gi hnd.len.1 fun x hx=>?_
  have:=hnd.args x hx
  exact (cC hA O_ (ha x hx)).2
 rw [←e] at h ⊢
 rcases Jt Gi hA hs with ⟨_,h2⟩ | ⟨k,hk,h1,_⟩
 ·exact h2
 ·exfalso
  have hkb:=Dr L s k hk
  unfold BF at hk
  rw [List.mem_reverse] at hk
  have hq:(k=(s:Int)∨(BU Cz L k.toNat).2=0)∧0≤k∧k<(L.length:Int):=by
   refine Yr L (fun z=>(z=(s:Int)∨(BU Cz L z.toNat).2=0)∧0≤z∧z<(L.length:Int)) (fun z hz x hx=>?_) (s+1) _ (fun z hz=>?_) k hk
   ·obtain ⟨hz1,hz2,hz3⟩:=hz
    have hzl:z<L.length:=by omega
    have hr:=(hA.nd hzl).args x hx
    refine ⟨⟨.inr ?_,by omega,by omega⟩,by omega⟩
    rcases hz1 with h | h
    ·obtain rfl:z=s:=by omega
     exact ha x hx
    ·rw [Int.toNat_natCast] at h
     rcases kH hA hzl with ⟨e,h2,h3⟩ | ⟨b,_,_,h2⟩
     ·rw [h2] at h
      have h:e=0:=h
      omega
     ·rw [h2 x hx]
   ·by_cases e:z=s
    ·subst e;exact ⟨.inl rfl,by omega,by omega⟩
    ·exfalso
     unfold JN at hz
     rw [List.getD_eq_getElem?_getD,List.getElem?_set_ne (fun h=>e h.symm)] at hz
     by_cases hl:z<s+1
     ·rw [List.getElem?_replicate,if_pos hl] at hz;cases hz
     ·rw [List.getElem?_replicate,if_neg hl] at hz;cases hz
  rcases hq.1 with rfl | h2
  ·rw [Int.toNat_natCast] at h1
   exact h1 h
  ·exact h1 (cC hA O_ h2).1
def ST(L:List Nd)(l:List Int):List (AB 8):=l.map fun x=>(BU Cz L x.toNat).1
def XJ(L:List Nd)(l:List Int):Prop:= ∀x∈l,(BU Cz L x.toNat).2=0
theorem dn{l:List (AB 8)}(h:jl l≤65536):Jm l=(jn l,0):=by
 unfold Jm
 rw [if_pos h]
section
variable {L:List Nd} {ps:List Int} {k d s:Nat}
theorem sV(hA:C2 L)(hs:s<L.length)(hg:Aa L s=⟨6,0,(k:Int)::ps⟩)(hk:(BU Cz L k).2=0)(hp:XJ L ps)(hj:jl (ST L ps)≤65536):BU Cz L s=(BP (AJ (BU Cz L k).1) (Ag 12) [] (jn (ST L ps)),0):=by
 have e:Iv Cz L (fun x=>(BU Cz L x.toNat).1) (Aa L s)=(BP (AJ (BU Cz L k).1) (Ag 12) [] (jn (ST L ps)),0):=by
  rw [hg]
  show IJ (AJ (BU Cz L k).1) (Jm (ST L ps))=_
  rw [dn hj]
  rfl
 rw [Ui hA hs (by
  rw [hg]
  intro x hx
  rcases List.mem_cons.1 hx with rfl | hx
  ·exact hk
  ·exact hp x hx) (by rw [e]),e]
theorem rR(hA:C2 L)(hs:s<L.length)(hg:Aa L s=⟨5,0,[(k:Int)]⟩)(hk:(BU Cz L k).2=0):BU Cz L s=(F6 (AJ (BU Cz L k).1)++H3 (AJ (BU Cz L k).1),0):=by
 have e:Iv Cz L (fun x=>(BU Cz L x.toNat).1) (Aa L s)=(F6 (AJ (BU Cz L k).1)++H3 (AJ (BU Cz L k).1),0):=by
  rw [hg]
  rfl
 rw [Ui hA hs (by
  rw [hg]
  intro x hx
  obtain rfl:=List.mem_singleton.1 hx
  exact hk) (by rw [e]),e]
theorem yh(hA:C2 L)(hs:s<L.length)(hg:Aa L s=⟨8,0,(k:Int)::ps⟩)(hk:(BU Cz L k).2=0)(hp:XJ L ps)(hj:jl (ST L ps)≤65536):BU Cz L s=(DK (AJ (BU Cz L k).1) (jn (ST L ps))++jn (ST L ps),0):=by
 have e:Iv Cz L (fun x=>(BU Cz L x.toNat).1) (Aa L s)=(DK (AJ (BU Cz L k).1) (jn (ST L ps))++jn (ST L ps),0):=by
  rw [hg]
  show PY (AJ (BU Cz L k).1) (Jm (ST L ps))=_
  rw [dn hj]
  rfl
 rw [Ui hA hs (by
  rw [hg]
  intro x hx
  rcases List.mem_cons.1 hx with rfl | hx
  ·exact hk
  ·exact hp x hx) (by rw [e]),e]
theorem MK(K:AB 8):(F6 K).length=32:=by unfold F6;rw [IZ]
theorem wA{p:Nat}(hA:C2 L)(hs:s<L.length)(hg:Aa L s=⟨7,0,(p:Int)::(d:Int)::ps⟩)(hpk:Aa L p=⟨5,0,[(k:Int)]⟩)(hpl:p<L.length)(hk:(BU Cz L k).2=0)(hd:(BU Cz L d).2=0)(hp:XJ L ps)(hj:jl (ST L ps)≤65536):BU Cz L s=(F6 (AJ (BU Cz L d).1)++BP (S4 (AJ (BU Cz L d).1) (F6 (AJ (BU Cz L k).1))) (Ag 12) [] (jn (ST L ps)),0):=by
 have hpb:=rR hA hpl hpk hk
 have e:Iv Cz L (fun x=>(BU Cz L x.toNat).1) (Aa L s)=(F6 (AJ (BU Cz L d).1)++BP (S4 (AJ (BU Cz L d).1) (F6 (AJ (BU Cz L k).1))) (Ag 12) [] (jn (ST L ps)),0):=by
  rw [hg]
  have h5:(Aa L p).k=5:=by rw [hpk]
  unfold Iv
  dsimp only
  rw [if_neg D_,if_neg D_,if_neg D_,if_neg D_,if_neg D_,if_neg D_,if_neg (fun h=>h.2 h5)]
  show Nm (AJ (BU Cz L d).1) ((BU Cz L p).1.take 32) (Jm (ST L ps))=_
  rw [dn hj,hpb,List.take_append_of_le_length (by rw [MK];decide),List.take_of_length_le (by rw [MK];decide)]
  unfold Nm
  rw [if_pos rfl,if_neg (Su _ _ (Ap _) (Ap _))]
  rfl
 rw [Ui hA hs (by
  rw [hg]
  intro x hx
  rcases List.mem_cons.1 hx with rfl | hx
  ·show (BU Cz L p).2=0
   rw [hpb]
  ·rcases List.mem_cons.1 hx with rfl | hx
   ·exact hd
   ·exact hp x hx) (by rw [e]),e]
end
theorem kh{a b:AB 8}{n:Nat}(h:a.length=n):cut (a++b) 0 n=a:=by subst h;simp [cut]
theorem fe{a b:AB 8}{n m:Nat}(h:a.length=n)(hb:b.length=m):cut (a++b) n m=b:=by subst h hb;simp [cut]
theorem ax(seed text:AB 8):cut (DK seed text) 0 32=enc (oB (Dx (cut (CD seed) 32 32) text))∧cut (DK seed text) 32 32=mD (DP (enc (oB (Dx (cut (CD seed) 32 32) text))) (enc (oB (Ca seed))) text) (Ca seed) (Dx (cut (CD seed) 32 32) text):=by
 unfold DK
 exact ⟨kh (Uh _),fe (Uh _) (tY _ _ _)⟩
theorem tH(a b c:AB 8):oB (mD a b c)=lO (oB c) (TO (oB b) (D8 a 32)):=by
 unfold oB
 rw [jS,ki,qh,Nat.mul_comm,qB,lM]
theorem eQ(seed text:AB 8):gv (H3 seed) text (DK seed text)=true:=by
 obtain ⟨h1,h2⟩:=ax seed text
 unfold gv H3
 rw [h1,h2,jz,Rb,Rb,Bool.true_and,Bool.true_and,Bool.true_and,iZ,uJ,tH]
 exact decide_eq_true rfl
theorem nJ{w:List (AB 8)}(h:jl w≤65536):jr (jn w)=(w,0):=Wv (by rw [NP];exact h) (vi w h)
theorem jZ{K:AB 8}(hK:K.length=32){w:List (AB 8)}(h:jl w≤65536):ni K (BP K (Ag 12) [] (jn w))=(w,0):=by
 have hl:=CZ K (Ag 12) [] (jn w) hK (A1 12)
 have hj:=NP w
 have e:Nt K (BP K (Ag 12) [] (jn w))=0:=by
  unfold Nt
  rw [if_neg (by rw [hl];omega),if_pos (qE K (Ag 12) (jn w) hK (A1 12))]
 unfold ni
 rw [if_pos e,bT K (Ag 12) (jn w) hK (A1 12),nJ h]
theorem sN{K D:AB 8}(hK:K.length=32)(hD:D.length=32){w:List (AB 8)}(h:jl w≤65536):yO K (F6 D++BP (S4 D (F6 K)) (Ag 12) [] (jn w))=(w,0):=by
 have hl:=CZ (S4 D (F6 K)) (Ag 12) [] (jn w) (Ki _ _) (A1 12)
 have hp:=MK D
 have e:S4 K (F6 D)=S4 D (F6 K):=by
  unfold S4
  rw [dL K D hK hD]
 unfold yO
 rw [if_neg (by rw [List.length_append,hl,hp];omega),List.take_append_of_le_length O_,List.take_of_length_le O_,if_neg (Su K D hK hD),e,List.drop_append_of_le_length O_,List.drop_of_length_le O_,List.nil_append,jZ (Ki _ _) h]
theorem ru{K:AB 8}(hK:K.length=32){w:List (AB 8)}(h:jl w≤65536):wv (F6 K++H3 K) (DK K (jn w)++jn w)=(w,0):=by
 have hp:=MK K
 have hq:=Pu K hK
 have hs:=Ik K (jn w) hK
 unfold wv
 rw [if_neg (by rw [List.length_append,List.length_append,hp,hq,hs];omega),List.drop_append_of_le_length O_,List.drop_of_length_le O_,List.nil_append,List.drop_append_of_le_length O_,List.drop_of_length_le O_,List.nil_append,List.take_append_of_le_length O_,List.take_of_length_le O_,if_pos (eQ K (jn w)),nJ h]
def cK(L:List Nd)(l:List Int):List (AB 8)×Bool:=if l.all (fun x=>decide ((BU Cz L x.toNat).2=0)) then (ST L l,true) else ([],false)
theorem nT{L:List Nd}{l:List Int}(h:XJ L l):cK L l=(ST L l,true):=by
 unfold cK
 rw [if_pos (List.all_eq_true.2 fun x hx=>decide_eq_true (h x hx))]
theorem xQ{L:List Nd}{l:List Int}{x:Int}(hx:x∈l)(h:¬(BU Cz L x.toNat).2=0):cK L l=([],false):=by
 unfold cK
 rw [if_neg fun e=>h (of_decide_eq_true (List.all_eq_true.1 e x hx))]
theorem Zl{L:List Nd}{l:List Int}{w:List (AB 8)}(h:cK L l=(w,true)):XJ L l∧w=ST L l:=by
 unfold cK at h
 split at h
 ·rename_i e
  exact ⟨fun x hx=>of_decide_eq_true (List.all_eq_true.1 e x hx),by cases h;rfl⟩
 ·cases h
theorem qp{L:List Nd}{l:List Int}{j:Nat}(h:j<l.length):ST L (l.take (j+1))=ST L (l.take j)++[(BU Cz L (AX l j).toNat).1]:=by
 rw [List.take_succ_eq_append_getElem h,ST,List.map_append]
 simp only [ST,AX,List.map_cons,List.map_nil,List.getD_eq_getElem?_getD,List.getElem?_eq_getElem h,Option.getD_some]
theorem NZ(L:List Nd)(es:List (Value×C6))(N:Nat)(l:List Int)(hN:L.length=N)(hNl:N≤1048576)(hA:C2 L)(hl:l.length≤100)(hr:∀x∈l,0≤x∧x<(N:Int)):Ev prog (.call 33 [Al 0,.c (.is l)] [.row false (.ac [.sl 1 0 N N 3,.mp 2]),.row false (.an L),.row false (.mp es)]) (.val (.tup [.c (.sl 3 0 (cK L l).1.length (cK L l).1.length 1),.c (.val (.bool (cK L l).2))]) [.row false (.ac [.sl 1 0 N N 3,.mp 2]),.row false (.an L),.row false (.mp es),.row true (.ab (cK L l).1)]):=by
 obtain ⟨m,hm⟩:∃m,l.length=m:=⟨_,rfl⟩
 refine AG func33 rfl ntmps33 rfl AH ?_;refine AK ?_;refine EV ?_;refine Bc ?_;refine Q_ ?_;refine FP 6 1 (.ab []) rfl rfl AH rfl ?_;refine AK ?_;refine Ay ?_;refine DJ [0,1,6,7] (fun (z:Nat×List (AB 8))=>⟨32,AS [0,1,6,7] [Al 0,.c (.is l),.c (.sl 3 0 z.1 z.1 1),Ae (z.1:Int)],[.row false (.ac [.sl 1 0 N N 3,.mp 2]),.row false (.an L),.row false (.mp es),.row true (.ab z.2)]⟩) (fun z=>m-z.1) (fun z=>z.1≤m∧z.2=ST L (l.take z.1)∧XJ L (l.take z.1)) (0,[]) K_ ⟨Nat.zero_le _,rfl,fun x h=>by cases h⟩ ?_
 rintro ⟨j,w⟩ ⟨hj,hw,hall⟩
 dsimp only at hj hw hall ⊢
 have hwl:w.length=j:=by rw [hw];simp [ST,hm];omega
 by_cases hlt:j<m
 ·have hme:AX l j∈l:=by simp [AX,show j<l.length by omega]
  have hg:=hr (AX l j) hme
  obtain ⟨y,hy⟩:∃y:Nat,AX l j=(y:Int):=⟨(AX l j).toNat,by omega⟩
  have hRy:=yN L es N y hN hNl O_ hA
  have htk:=qp (L:=L) (l:=l) (j:=j) O_
  have hya:∀x∈l.take (j+1),x∈l.take j∨x=AX l j:=fun x hx=>by
   rw [List.take_succ_eq_append_getElem O_] at hx
   rcases List.mem_append.1 hx with h | h
   ·exact .inl h
   ·exact .inr (by simpa [AX,show j<l.length by omega] using h)
  have hno:=xQ (L:=L) (l:=l) (x:=AX l j) hme
  rw [hy,Int.toNat_natCast] at htk hno
  have hbl:(BU Cz L y).2=0→XJ L (l.take (j+1)):=fun h x hx=>by
   rcases hya x hx with h1 | h1
   ·exact hall x h1
   ·rw [h1,hy];exact h
  generalize BU Cz L y=v at*
  obtain ⟨b,e⟩:=v
  dsimp only at hRy htk hno hbl
  refine Ar ?_;refine K3 ?_;refine Df ?_;refine AR ?_;refine Nq ?_;refine AA ((C0 rfl Bv O_).trans (by rw [hy])) rfl ?_
  refine Bh (AY (bs:=[0,1,2]) (hRy) iU K_ K_ rfl BT) AM rfl ?_;refine F1 ?_;by_cases he:e=0
  ·subst he
   refine A9 ?_;refine FF ?_;refine Df ?_;refine Zm ?_;refine ev ?_;refine Ab ?_;refine Cl ?_;exact ⟨(j+1,w++[b]),K_,by show m-(j+1)<m-j;omega,by show j+1≤m;omega,by show w++[b]=ST L (l.take (j+1));rw [htk,hw],hbl rfl⟩
  ·rw [hno he]
   dsimp only
   refine A9 ?_;refine FF ?_;refine AQ ?_;refine Er ?_;refine FP 4 1 (.ab []) rfl rfl AH rfl ?_;exact Ep
 ·obtain rfl:j=m:=by omega
  rw [←hm,List.take_length] at hw hall
  rw [nT hall,←hw]
  dsimp only
  rw [hwl]
  refine Ar ?_;refine K3 ?_;refine AZ ?_;exact Ct
theorem MX{N:Nat}{k:Int}{a:List Int}(h1:1≤k)(h9:k≤9)(hl:CK k≤a.length)(hm:a.length≤Eb k)(hb:∀x∈a,0≤x∧x<(N:Int)):Bl N k 0 a=0:=by
 unfold Bl
 have hh:hasB N a=true:=by
  unfold hasB
  rw [List.all_eq_true]
  intro x hx
  have:=hb x hx
  simp [this.1,this.2]
 rw [if_neg O_,if_neg O_,if_neg O_,if_neg (by rw [hh];decide)]
structure Made(L:List Nd)(N:Nat)(k:Int)(a:List Int)(L1:List Nd)(N1 i:Nat):Prop where
 len:L1.length=N1
 ok:C2 L1
 pre:∃t,L1=L++t
 at_:i<N1
 is_:Aa L1 i=⟨k,0,a⟩
 few:N≤N1∧N1≤N+1
 how:(F2 L ⟨k,0,a⟩=some i∧L1=L∧N1=N)∨(F2 L ⟨k,0,a⟩=none∧L1=L++[⟨k,0,a⟩]∧N1=N+1∧i=N)
theorem made{L:List Nd}{N:Nat}{k:Int}{a:List Int}(hA:C2 L)(hN:L.length=N)(he:Bl N k 0 a=0):∃L1 N1 i,Made L N k a L1 N1 i:=by
 subst hN
 cases hf:F2 L ⟨k,0,a⟩ with
 |some i=>
  obtain ⟨h1,h2⟩:=Mz hf
  exact ⟨L,L.length,i,rfl,hA,⟨[],by simp⟩,h1,h2,⟨Nat.le_refl _,Nat.le_succ _⟩,.inl ⟨hf,rfl,rfl⟩⟩
 |none=>exact ⟨L++[⟨k,0,a⟩],L.length+1,L.length,by simp,hA.snoc he D_ hf,⟨_,rfl⟩,Nat.lt_succ_self _,Jl _ _,⟨Nat.le_succ _,Nat.le_refl _⟩,.inr ⟨hf,rfl,rfl,rfl⟩⟩
theorem Made.old{L L1:List Nd}{N N1 i x:Nat}{k:Int}{a:List Int}(h:Made L N k a L1 N1 i)(hx:x<L.length):Aa L1 x=Aa L x:=by
 obtain ⟨t,rfl⟩:=h.pre
 exact Pe hx
theorem qH{L t:List Nd}{l:List Int}(hA:C2 L)(hr:∀x∈l,0≤x∧x<(L.length:Int))(h:XJ L l):XJ (L++t) l∧ST (L++t) l=ST L l:=by
 refine ⟨fun x hx=>?_,List.map_congr_left fun x hx=>?_⟩
 ·have:=hr x hx
  rw [SO hA O_];exact h x hx
 ·have:=hr x hx
  rw [SO hA O_]
theorem AAw{L:List Nd}(hA:C2 L){N:Nat}(hN:L.length=N){s p x t k d:Nat}{ps:List Int}{w:List (AB 8)}(hs:s<N)(hp:p<N)(hx:x<N)(ht:t<N)(gs:Aa L s=⟨6,0,(k:Int)::ps⟩)(gp:Aa L p=⟨5,0,[(k:Int)]⟩)(gx:Aa L x=⟨7,0,(p:Int)::(d:Int)::ps⟩)(gt:Aa L t=⟨8,0,(k:Int)::ps⟩)
  (hk:(BU Cz L k).2=0) (hd:(BU Cz L d).2=0) (hps:XJ L ps) (hw:ST L ps=w) (hj:jl w≤65536):
  cK L [(s:Int),(p:Int),(x:Int),(t:Int)]=([BP (AJ (BU Cz L k).1) (Ag 12) [] (jn w),F6 (AJ (BU Cz L k).1)++H3 (AJ (BU Cz L k).1),F6 (AJ (BU Cz L d).1)++BP (S4 (AJ (BU Cz L d).1) (F6 (AJ (BU Cz L k).1))) (Ag 12) [] (jn w),DK (AJ (BU Cz L k).1) (jn w)++jn w],true):=by
 subst hN
 subst hw
 have e1:=sV hA hs gs hk hps hj
 have e2:=rR hA hp gp hk
 have e3:=wA hA hx gx gp hp hk hd hps hj
 have e4:=yh hA ht gt hk hps hj
 rw [nT]
 ·simp only [ST,List.map_cons,List.map_nil,Int.toNat_natCast] at*
  rw [e1,e2,e3,e4]
 ·intro z hz
  rcases List.mem_cons.1 hz with rfl | hz
  ·rw [Int.toNat_natCast,e1]
  rcases List.mem_cons.1 hz with rfl | hz
  ·rw [Int.toNat_natCast,e2]
  rcases List.mem_cons.1 hz with rfl | hz
  ·rw [Int.toNat_natCast,e3]
  obtain rfl:=List.mem_singleton.1 hz
  rw [Int.toNat_natCast,e4]
theorem qC{L:List Nd}(hA:C2 L){i:Nat}(hi:i<L.length):(BU Cz L i).1.length≤100000:=by
 rcases Jt Gi hA hi with ⟨_,h⟩ | ⟨k,_,_,h⟩
 ·rw [h]
  dsimp only
  rw [bV Gi hA hi]
  exact Zn (fun _=>gX _ _) (hA.nd hi).kind
 ·rw [h];exact Nat.zero_le _
theorem tQ{L:List Nd}(l:List Int)(hA:C2 L)(hr:∀x∈l,0≤x∧x<(L.length:Int)):(cK L l).1.length≤l.length∧ ∀i,(Fh (cK L l).1 i).length≤100000:=by
 unfold cK
 split
 ·refine ⟨by simp [ST],Rv fun x hx=>?_⟩
  obtain ⟨y,hy,rfl⟩:=List.mem_map.1 hx
  have:=hr y hy
  exact qC hA O_
 ·exact ⟨Nat.zero_le _,Rv fun x hx=>by cases hx⟩
theorem qQ{S:List Stp}(h:Ka S=false)(hn:∀i,i<S.length→Sg (CX S i).k∧Sg (CX S i).n∧ ∀x∈(CX S i).a,Sg x):xO S:=by
 refine ⟨hn,fun i hi h2=>?_⟩
 unfold Ka at h
 rw [Bool.or_eq_false_iff] at h
 have:=List.any_eq_false.1 h.2 (CX S i) (bQ hi h2)
 simpa using this
theorem tm{a:List Int}{N:Nat}(hN:0<N):∀x∈Gf a N,x<0∨(0≤x∧x<(N:Int)):=by
 intro x hx
 obtain ⟨y,_,rfl⟩:=List.mem_map.1 hx
 by_cases h:0≤y
 ·rw [if_pos ⟨hN,h⟩]
  exact .inr ⟨Int.emod_nonneg _ O_,Int.emod_lt_of_pos _ O_⟩
 ·rw [if_neg fun h1=>h h1.2]
  exact .inl O_
theorem il{A B:Prop}(a:A)(b:B)(k:r)(h:A→B→Hid r→g:=by intro a b h;refine Cs (DG (bs:=[1,7,4,5]) a b K_ rfl rfl BT AM) rfl ?_;exact h.out):g:=h a b ⟨k⟩
theorem pD(k:r)(h:Hid r→g:=by intro h;refine Cs (L5 (Ev.mem (Wj (l:=[_]) underlying41 QK rfl rfl D_ D_ AH)) AH An rfl) rfl ?_;exact h.out):g:=h ⟨k⟩
theorem fX(k:r)(h:Hid r→g:=by intro h;refine AE (DI (j:=0) rfl rfl underlying22 Nn O_) rfl ?_;exact h.out):g:=h ⟨k⟩
theorem re(S:List Stp)(n cap:Nat)(key draw:Int)(ps:List Int)(hn:S.length=n)(hnl:n≤9223372036854775807)(hnum:∀i,i<S.length→Sg (CX S i).k∧Sg (CX S i).n∧ ∀x∈(CX S i).a,Sg x)(hlen:∀i,i<n→(CX S i).a.length≤9223372036854775807)(hkr:Sg key)(hdr:Sg draw)(hpr:∀x∈ps,Sg x)(hpn:ps.length≤9223372036854775807):Ev prog (.call 8 [.c (.sl 0 0 n cap 4),Ae key,Ae draw,.c (.is ps)] [.row false (.al (stA S))]) (.val (.c (.val (.bool true))) [.row false (.al (stA S))]):=by
 have hH:=fJ S n cap hn hnl hlen
 have hW:=oO
 obtain ⟨pn,hpq⟩:∃pn,ps.length=pn:=⟨_,rfl⟩
 cases hh:Ka S with
 |true=>
  rw [hh] at hH
  refine AG func8 rfl ntmps8 rfl AH ?_;refine Im ?_;refine TD (hH) cR ?_;refine GN ?_;refine OT ?_;refine Dl ?_;refine Dl ?_;exact Gc
 |false=>
  rw [hh] at hH
  by_cases h6:6<pn
  ·refine AG func8 rfl ntmps8 rfl AH ?_
   refine Im ?_;refine TD (hH) cR ?_;refine BJ ?_;refine KN ?_;refine BR ?_;refine AA (Fd (b:=6) rfl rfl) rfl ?_;refine CQ ?_;refine Dl ?_;refine Dl ?_;exact Gc
  by_cases hk:key<0
  ·refine AG func8 rfl ntmps8 rfl AH ?_
   refine Im ?_;refine TD (hH) cR ?_;refine BJ ?_;refine KN ?_;refine BR ?_;refine AA (Fd (b:=6) rfl rfl) rfl ?_;refine Kw ?_;refine V3 ?_;refine CQ ?_;refine Dl ?_;exact Gc
  by_cases hd:draw<0
  ·refine AG func8 rfl ntmps8 rfl AH ?_
   refine Im ?_;refine TD (hH) cR ?_;refine BJ ?_;refine KN ?_;refine BR ?_;refine AA (Fd (b:=6) rfl rfl) rfl ?_;refine Kw ?_;refine V3 ?_;refine Kw ?_;refine V3 ?_;refine CQ ?_;exact Gc
  obtain ⟨kk,rfl⟩:∃m:Nat,key=(m:Int):=⟨key.toNat,by omega⟩
  obtain ⟨dd,rfl⟩:∃m:Nat,draw=(m:Int):=⟨draw.toNat,by omega⟩
  have hku:=hkr.2
  have hdu:=hdr.2
  have hS:=qQ hh hnum
  obtain ⟨L,hL⟩:∃L,bL S (min n 150)=L:=⟨_,rfl⟩
  obtain ⟨N,hN⟩:∃N,L.length=N:=⟨_,rfl⟩
  have hb:=iy hS (min n 150) O_ O_
  rw [hL,hN] at hb
  obtain ⟨hA,hNl⟩:=hb
  have hNl:N≤150:=by omega
  have hBu:=oG S n cap hn hnl hS L N hL hN
  have hSome:=ge ps N O_ O_ hpr
  rw [hpq] at hSome
  refine AG func8 rfl ntmps8 rfl AH ?_;refine Im ?_;refine TD (hH) cR ?_;refine BJ ?_;refine KN ?_;refine BR ?_;refine AA (Fd (b:=6) rfl rfl) rfl ?_;refine Kw ?_;refine O4 ?_;refine Kw ?_;refine O4 ?_;refine CQ ?_;refine A6 ?_;refine GD [0,1,2,3,9,10,11] (fun (q:Bool)=>⟨266,AS [0,1,2,3,9,10,11] [.c (.sl 0 0 n cap 4),Ae (kk:Int),Ae (dd:Int),.c (.is ps),Al 1,Al 2,.c (.val (.bool q))],[.row false (.al (stA S)),.row true (.ac [.sl 3 0 N N 3,.mp 4]),.row true (.ac [.sl 5 0 N N 3]),.row true (.an L),.row true (.mp (Bk L)),.row true (.an L)]⟩) true ?_ ?_
  ·refine S_ ?_
   refine Cj ?_;refine TD (hBu) ABA ?_;refine Cx ?_;refine Tn ?_;refine G4 ?_;refine rI ?_;exact ⟨true,K_,rfl⟩
  refine A9 ?_;refine FO ?_;refine AZ ?_;refine Ea ?_;refine Jy ?_;refine Lo ?_;refine Bc ?_;by_cases h0:N=0
  ·refine S_ ?_
   refine Cj ?_;refine Ju ?_;refine AQ ?_;refine A7 (hW) Nl ?_;exact B6
  refine A9 ?_;refine Ju ?_;refine AN ?_;have hkN:kk%N<N:=Nat.mod_lt _ O_
  have hdN:dd%N<N:=Nat.mod_lt _ O_
  have hpi:=tm (a:=ps) (N:=N) O_
  have hpl:(Gf ps N).length=pn:=by rw [Si,hpq]
  refine S_ ?_;refine KL ?_;refine Bt ?_;refine AE (HM rfl rfl O_ O_) rfl ?_;refine Bt ?_;refine AE (HM rfl rfl O_ O_) rfl ?_;refine Bt ?_;refine Rl (L5 (AY (bs:=[]) (hSome) uc K_ K_ rfl BT) AH An rfl) rfl ?_;refine AE (Ac rfl) rfl ?_;refine G1 ?_;refine AN ?_;generalize kk%N=k at*
  generalize dd%N=d at*
  generalize Gf ps N=p at*
  clear hSome
  obtain ⟨a,ha⟩:∃a,[(k:Int),(d:Int)]++p=a:=⟨_,rfl⟩
  have hal:a.length=2+pn:=by rw [←ha,List.length_append,hpl];rfl
  have hai:∀x∈a,x<0∨(0≤x∧x<(N:Int)):=by
   intro x hx
   rw [←ha] at hx
   rcases List.mem_append.1 hx with h | h
   ·simp at h;omega
   ·exact hpi x h
  refine Ar ?_;refine Yc ?_;refine AR ?_;refine Qz (u:=[(k:Int),(d:Int)]) (y:=p) (len:=2) (n:=pn) rfl rfl rfl underlying41 underlying41 QK rfl hpl O_ AH AM rfl ?_;refine Bc ?_;rw [ha]
  refine S_ ?_;refine gY 13 rfl rfl hal AM ?_;refine AK ?_;refine Ay ?_;refine DJ [0,1,2,3,9,10,13,14] (fun (j:Nat)=>⟨266,AS [0,1,2,3,9,10,13,14] [.c (.sl 0 0 n cap 4),Ae (k:Int),Ae (d:Int),.c (.is p),Al 1,Al 2,.c (.is a),Ae (j:Int)],[.row false (.al (stA S)),.row true (.ac [.sl 3 0 N N 3,.mp 4]),.row true (.ac [.sl 5 0 N N 3]),.row true (.an L),.row true (.mp (Bk L)),.row true (.an L)]⟩) (fun j=>2+pn-j) (fun j=>j≤2+pn∧ ∀i,i<j→0≤AX a i) 0 K_ ⟨Nat.zero_le _,fun i h=>absurd h (Nat.not_lt_zero i)⟩ ?_
  rintro j ⟨hj,hpos⟩
  by_cases hlt:j<2+pn
  ·have hme:AX a j∈a:=by simp [AX,show j<a.length by omega]
   have hgi:=hai _ hme
   by_cases hneg:AX a j<0
   ·generalize hq:AX a j=y at*
    refine Ar ?_;refine K3 ?_;refine Df ?_;refine Nq ?_;refine AA ((C0 rfl Bv O_).trans (by rw [hq])) rfl ?_
    refine V3 ?_;refine GN ?_;refine G5 ?_;refine G5 ?_;refine OT ?_;refine AQ ?_;refine A7 (hW) Nl ?_;exact B6
   obtain ⟨y,hy⟩:∃y:Nat,AX a j=(y:Int):=⟨(AX a j).toNat,by omega⟩
   obtain ⟨v,m',⟨fb,rfl,rfl⟩,hF⟩:=wN L N y hN O_ O_ hA
   cases fb with
   |false=>
    refine Ar ?_;refine K3 ?_;refine Df ?_;refine Nq ?_;refine AA ((C0 rfl Bv O_).trans (by rw [hy])) rfl ?_
    refine O4 ?_;refine BJ ?_;refine BJ ?_;refine Nq ?_;refine BR ?_;refine G9 Cv ?_;refine Cs (Ev.val ((C0 rfl Bv O_).trans (by rw [hy]))) rfl ?_
    refine BR ?_;refine Bh (AY (bs:=[2,5]) (hF) vW K_ K_ rfl BT) AM rfl ?_;refine BR ?_;refine DM ?_;refine AQ ?_;refine A7 (hW) Nl ?_;exact B6
   |true=>
    refine Ar ?_;refine K3 ?_;refine Df ?_;refine Nq ?_;refine AA ((C0 rfl Bv O_).trans (by rw [hy])) rfl ?_
    refine O4 ?_;refine BJ ?_;refine BJ ?_;refine Nq ?_;refine BR ?_;refine G9 Cv ?_;refine Cs (Ev.val ((C0 rfl Bv O_).trans (by rw [hy]))) rfl ?_
    refine BR ?_;refine Bh (AY (bs:=[2,5]) (hF) vW K_ K_ rfl BT) AM rfl ?_;refine BR ?_;refine DM ?_;refine AZ ?_;refine Cl ?_;refine ⟨j+1,K_,by show 2+pn-(j+1)<2+pn-j;omega,by show j+1≤2+pn;omega,fun i hi=>?_⟩
    rcases (by omega:i<j∨i=j) with h | rfl
    ·exact hpos i h
    ·omega
  obtain rfl:j=2+pn:=by omega
  have hpin:∀x∈p,0≤x∧x<(N:Int):=by
   intro x hx
   have h1:x∈a:=by rw [←ha];exact List.mem_append_right _ hx
   obtain ⟨i,hi,rfl⟩:=List.getElem_of_mem h1
   have h2:=hpos i O_
   have h3:=hai _ h1
   simp [AX,hi] at h2
   omega
  clear hpos hai hpi ha
  have hB1:=NZ L (Bk L) N p hN O_ hA O_ hpin
  have hB2:=NZ L (Bk L) N [(k:Int)] hN O_ hA (by simp) (by intro x hx;obtain rfl:=List.mem_singleton.1 hx;omega)
  have hB3:=NZ L (Bk L) N [(d:Int)] hN O_ hA (by simp) (by intro x hx;obtain rfl:=List.mem_singleton.1 hx;omega)
  have w1:=tQ p hA (by rw [hN];exact hpin)
  obtain ⟨w,b1,e1⟩:∃w b,cK L p=(w,b):=⟨_,_,rfl⟩
  obtain ⟨w2,b2,e2⟩:∃w b,cK L [(k:Int)]=(w,b):=⟨_,_,rfl⟩
  obtain ⟨w3,b3,e3⟩:∃w b,cK L [(d:Int)]=(w,b):=⟨_,_,rfl⟩
  rw [e1] at hB1 w1
  rw [e2] at hB2
  rw [e3] at hB3
  dsimp only at hB1 hB2 hB3 w1
  obtain ⟨q1,hq1⟩:∃q,w.length=q:=⟨_,rfl⟩
  obtain ⟨q2,hq2⟩:∃q,w2.length=q:=⟨_,rfl⟩
  obtain ⟨q3,hq3⟩:∃q,w3.length=q:=⟨_,rfl⟩
  rw [hq1] at hB1 w1
  rw [hq2] at hB2
  rw [hq3] at hB3
  refine Ar ?_;refine K3 ?_;refine Df ?_;refine Bh (AY (bs:=[1,3,4]) (hB1) iz K_ K_ rfl BT) AM rfl ?_;refine Cx ?_;refine G4 ?_;refine BH ?_;refine pD ?_;refine Bh (AY (bs:=[1,3,4]) (hB2) iz K_ K_ rfl BT) AM rfl ?_;refine Cx ?_;refine G4 ?_;refine BH ?_;refine pD ?_;refine Bh (AY (bs:=[1,3,4]) (hB3) iz K_ K_ rfl BT) AM rfl ?_;refine F1 ?_;rcases Nat.lt_or_ge 65536 (jl w) with hj | hj
  ·have hJ:=gE w q1 q1 hq1 O_ (fun i=>Nat.le_trans (w1.2 i) D_) O_
   refine A9 ?_;refine Xt (hJ) vj ?_;refine F1 ?_
   cases b1 with
   |false=>
    refine A9 ?_;refine FO ?_;refine Dl ?_;refine Dl ?_;refine Dl ?_;refine GN ?_;refine OT ?_;refine AQ ?_;refine A7 (hW) Nl ?_;exact B6
   |true=>
    cases b2 with
    |false=>
     refine A9 ?_;refine FO ?_;refine BJ ?_;refine DM ?_;refine Dl ?_;refine Dl ?_;refine GN ?_;refine OT ?_;refine AQ ?_;refine A7 (hW) Nl ?_;exact B6
    |true=>
     cases b3 with
     |false=>
      refine A9 ?_;refine FO ?_;refine BJ ?_;refine DM ?_;refine BJ ?_;refine DM ?_;refine Dl ?_;refine GN ?_;refine OT ?_;refine AQ ?_;refine A7 (hW) Nl ?_;exact B6
     |true=>
      refine A9 ?_;refine FO ?_;refine BJ ?_;refine DM ?_;refine BJ ?_;refine DM ?_;refine BJ ?_;refine DM ?_;refine GN ?_;refine OT ?_;refine AQ ?_;refine A7 (hW) Nl ?_;exact B6
  have hJ:=jy w q1 q1 hq1 O_ hj
  have hjl:=NP w
  refine A9 ?_;refine Xt (hJ) vj ?_;refine F1 ?_
  cases b1 with
  |false=>
   refine A9 ?_;refine FO ?_;refine Dl ?_;refine Dl ?_;refine Dl ?_;refine GN ?_;refine OT ?_;refine AQ ?_;refine A7 (hW) Nl ?_;exact B6
  |true=>
  cases b2 with
  |false=>
   refine A9 ?_;refine FO ?_;refine BJ ?_;refine DM ?_;refine Dl ?_;refine Dl ?_;refine GN ?_;refine OT ?_;refine AQ ?_;refine A7 (hW) Nl ?_;exact B6
  |true=>
  cases b3 with
  |false=>
   refine A9 ?_;refine FO ?_;refine BJ ?_;refine DM ?_;refine BJ ?_;refine DM ?_;refine Dl ?_;refine GN ?_;refine OT ?_;refine AQ ?_;refine A7 (hW) Nl ?_;exact B6
  |true=>
  by_cases h20:20000<jl w
  ·refine S_ ?_
   refine Cj ?_;refine FO ?_;refine BJ ?_;refine DM ?_;refine BJ ?_;refine DM ?_;refine BJ ?_;refine DM ?_;refine BJ ?_;refine Cy ?_;refine BR ?_;refine AA (Fd (b:=20000) rfl rfl) rfl ?_;refine CQ ?_;refine AQ ?_;refine A7 (hW) Nl ?_;exact B6
  refine A9 ?_;refine FO ?_;refine BJ ?_;refine DM ?_;refine BJ ?_;refine DM ?_;refine BJ ?_;refine DM ?_;refine BJ ?_;refine Cy ?_;refine BR ?_;refine AA (Fd (b:=20000) rfl rfl) rfl ?_;refine CQ ?_;refine A6 ?_;obtain ⟨hpB,hpw⟩:=Zl e1
  obtain ⟨hkB,hkw⟩:=Zl e2
  obtain ⟨hdB,hdw⟩:=Zl e3
  have hk0:(BU Cz L k).2=0:=hkB (k:Int) (List.mem_singleton.2 rfl)
  have hd0:(BU Cz L d).2=0:=hdB (d:Int) (List.mem_singleton.2 rfl)
  have hkb:=qC hA (i:=k) O_
  obtain ⟨kb,hkv⟩:∃b,(BU Cz L k).1=b:=⟨_,rfl⟩
  obtain ⟨db,hdv⟩:∃b,(BU Cz L d).1=b:=⟨_,rfl⟩
  obtain rfl:w2=[kb]:=by rw [hkw,←hkv];rfl
  obtain rfl:q2=1:=hq2.symm
  rw [hkv] at hkb
  clear hkw hdw hkB hdB hB1 hB2 hB3 hJ e1 e2 e3 hBu
  have he1:Bl N 6 0 ([(k:Int)]++p)=0:=MX D_ D_ (by simp [CK]) (by simp [Eb];try omega) (by
   intro z hz
   simp at hz
   rcases hz with rfl | hz
   ·omega
   ·have:=hpin z hz;omega)
  obtain ⟨L1,N1,s,m1⟩:=made hA hN he1
  have f1:=m1.few
  have t1:=m1.at_
  have o1:=m1.how
  have hr1:∀z∈(6:Int)::0::([(k:Int)]++p),-9223372036854775808≤z∧z≤9223372036854775807:=by
   intro z hz
   simp at hz
   rcases hz with rfl | rfl | rfl | hz
   ·omega
   ·omega
   ·omega
   ·have:=hpin z hz;omega
  refine GD [1,2,3,9,15,16,22,23] (fun (z:List Nd×Nat×Nat)=>⟨266,AS [1,2,3,9,15,16,22,23] [Ae (k:Int),Ae (d:Int),.c (.is p),Al 1,.c (.sl 2 0 q1 q1 1),.c (.sl 3 0 1 1 1),Ae (z.2.2:Int),Ae ((0:Nat):Int)],[.row false (.al (stA S)),.row true (.ac [.sl 4 0 z.2.1 z.2.1 3,.mp 5]),.row true (.ab w),.row true (.ab [kb]),.row true (.an z.1),.row true (.mp (Bk z.1))]⟩) (L1,N1,s) ?_ ?_
  ·rcases o1 with ⟨hf,h1,h2⟩ | ⟨hf,h1,h2,h3⟩
   ·obtain rfl:=h1
    obtain rfl:=h2
    refine Ar ?_;refine Nu ?_;refine AR ?_;refine Qz (u:=[(k:Int)]) (y:=p) (len:=1) (n:=pn) rfl rfl rfl underlying41 underlying41 QK rfl hpl O_ AH AM rfl ?_;refine Cs (DG (bs:=[1,10,3,4]) (R0 L1 N1 6 0 ([(k:Int)]++p) (1+pn) (1+pn) hA hN O_ (by simp [hpl];try omega) O_ hr1 he1 s hf) K1 K_ rfl rfl BT AM) rfl ?_
    refine F1 ?_;exact ⟨(L1,N1,s),K_,rfl⟩
   ·obtain rfl:=h1
    obtain rfl:=h2
    obtain rfl:=h3
    refine Ar ?_;refine Nu ?_;refine AR ?_;refine Qz (u:=[(k:Int)]) (y:=p) (len:=1) (n:=pn) rfl rfl rfl underlying41 underlying41 QK rfl hpl O_ AH AM rfl ?_;refine Cs (DG (bs:=[1,10,3,4]) (RY L s 6 0 ([(k:Int)]++p) (1+pn) (1+pn) hA hN O_ (by simp [hpl];try omega) O_ hr1 he1 hf) K1 K_ rfl rfl BT AM) rfl ?_
    refine F1 ?_;exact ⟨(L++[⟨6,0,[(k:Int)]++p⟩],s+1,s),K_,rfl⟩
  dsimp only
  refine S_ ?_;have he2:Bl N1 5 0 ([(k:Int)])=0:=MX D_ D_ (by simp [CK]) (by simp [Eb];try omega) (by
   intro z hz
   simp at hz
   subst hz;omega)
  obtain ⟨L2,N2,g,m2⟩:=made m1.ok m1.len he2
  have f2:=m2.few
  have t2:=m2.at_
  have o2:=m2.how
  have hr2:∀z∈(5:Int)::0::([(k:Int)]),-9223372036854775808≤z∧z≤9223372036854775807:=by
   intro z hz
   simp at hz
   rcases hz with rfl | rfl | rfl<;>omega
  refine GD [1,2,3,9,15,16,22,23,24,25] (fun (z:List Nd×Nat×Nat)=>⟨266,AS [1,2,3,9,15,16,22,23,24,25] [Ae (k:Int),Ae (d:Int),.c (.is p),Al 1,.c (.sl 2 0 q1 q1 1),.c (.sl 3 0 1 1 1),Ae (s:Int),Ae ((0:Nat):Int),Ae (z.2.2:Int),Ae ((0:Nat):Int)],[.row false (.al (stA S)),.row true (.ac [.sl 4 0 z.2.1 z.2.1 3,.mp 5]),.row true (.ab w),.row true (.ab [kb]),.row true (.an z.1),.row true (.mp (Bk z.1))]⟩) (L2,N2,g) ?_ ?_
  ·rcases o2 with ⟨hf,h1,h2⟩ | ⟨hf,h1,h2,h3⟩
   ·obtain rfl:=h1
    obtain rfl:=h2
    refine Ar ?_;refine Nu ?_;refine Cs (DG (bs:=[1,6,4,5]) (R0 L2 N2 5 0 ([(k:Int)]) (1) (1) m1.ok m1.len O_ (by simp;try omega) O_ hr2 he2 g hf) K1 K_ rfl rfl BT AM) rfl ?_
    refine F1 ?_;exact ⟨(L2,N2,g),K_,rfl⟩
   ·obtain rfl:=h1
    obtain rfl:=h2
    obtain rfl:=h3
    refine Ar ?_;refine Nu ?_;refine Cs (DG (bs:=[1,6,4,5]) (RY L1 g 5 0 ([(k:Int)]) (1) (1) m1.ok m1.len O_ (by simp;try omega) O_ hr2 he2 hf) K1 K_ rfl rfl BT AM) rfl ?_
    refine F1 ?_;exact ⟨(L1++[⟨5,0,[(k:Int)]⟩],g+1,g),K_,rfl⟩
  dsimp only
  refine S_ ?_;have he3:Bl N2 7 0 ([(g:Int),(d:Int)]++p)=0:=MX D_ D_ (by simp [CK]) (by simp [Eb];try omega) (by
   intro z hz
   simp at hz
   rcases hz with rfl | rfl | hz
   ·omega
   ·omega
   ·have:=hpin z hz;omega)
  obtain ⟨L3,N3,x,m3⟩:=made m2.ok m2.len he3
  have f3:=m3.few
  have t3:=m3.at_
  have o3:=m3.how
  have hr3:∀z∈(7:Int)::0::([(g:Int),(d:Int)]++p),-9223372036854775808≤z∧z≤9223372036854775807:=by
   intro z hz
   simp at hz
   rcases hz with rfl | rfl | rfl | rfl | hz
   ·omega
   ·omega
   ·omega
   ·omega
   ·have:=hpin z hz;omega
  refine GD [1,2,3,9,15,16,22,23,24,25,26,27] (fun (z:List Nd×Nat×Nat)=>⟨266,AS [1,2,3,9,15,16,22,23,24,25,26,27] [Ae (k:Int),Ae (d:Int),.c (.is p),Al 1,.c (.sl 2 0 q1 q1 1),.c (.sl 3 0 1 1 1),Ae (s:Int),Ae ((0:Nat):Int),Ae (g:Int),Ae ((0:Nat):Int),Ae (z.2.2:Int),Ae ((0:Nat):Int)],[.row false (.al (stA S)),.row true (.ac [.sl 4 0 z.2.1 z.2.1 3,.mp 5]),.row true (.ab w),.row true (.ab [kb]),.row true (.an z.1),.row true (.mp (Bk z.1))]⟩) (L3,N3,x) ?_ ?_
  ·rcases o3 with ⟨hf,h1,h2⟩ | ⟨hf,h1,h2,h3⟩
   ·obtain rfl:=h1
    obtain rfl:=h2
    refine Ar ?_;refine AR ?_;refine Yc ?_;refine AR ?_;refine Qz (u:=[(g:Int),(d:Int)]) (y:=p) (len:=2) (n:=pn) rfl rfl rfl underlying41 underlying41 QK rfl hpl O_ AH AM rfl ?_;refine il (R0 L3 N3 7 0 ([(g:Int),(d:Int)]++p) (2+pn) (2+pn) m2.ok m2.len O_ (by simp [hpl];try omega) O_ hr3 he3 x hf) K1 ?_
    refine F1 ?_;exact ⟨(L3,N3,x),K_,rfl⟩
   ·obtain rfl:=h1
    obtain rfl:=h2
    obtain rfl:=h3
    refine Ar ?_;refine AR ?_;refine Yc ?_;refine AR ?_;refine Qz (u:=[(g:Int),(d:Int)]) (y:=p) (len:=2) (n:=pn) rfl rfl rfl underlying41 underlying41 QK rfl hpl O_ AH AM rfl ?_;refine il (RY L2 x 7 0 ([(g:Int),(d:Int)]++p) (2+pn) (2+pn) m2.ok m2.len O_ (by simp [hpl];try omega) O_ hr3 he3 hf) K1 ?_
    refine F1 ?_;exact ⟨(L2++[⟨7,0,[(g:Int),(d:Int)]++p⟩],x+1,x),K_,rfl⟩
  dsimp only
  refine S_ ?_;have he4:Bl N3 8 0 ([(k:Int)]++p)=0:=MX D_ D_ (by simp [CK]) (by simp [Eb];try omega) (by
   intro z hz
   simp at hz
   rcases hz with rfl | hz
   ·omega
   ·have:=hpin z hz;omega)
  obtain ⟨L4,N4,t,m4⟩:=made m3.ok m3.len he4
  have f4:=m4.few
  have t4:=m4.at_
  have o4:=m4.how
  have hr4:∀z∈(8:Int)::0::([(k:Int)]++p),-9223372036854775808≤z∧z≤9223372036854775807:=by
   intro z hz
   simp at hz
   rcases hz with rfl | rfl | rfl | hz
   ·omega
   ·omega
   ·omega
   ·have:=hpin z hz;omega
  refine GD [1,2,3,9,15,16,22,23,24,25,26,27,28,29] (fun (z:List Nd×Nat×Nat)=>⟨266,AS [1,2,3,9,15,16,22,23,24,25,26,27,28,29] [Ae (k:Int),Ae (d:Int),.c (.is p),Al 1,.c (.sl 2 0 q1 q1 1),.c (.sl 3 0 1 1 1),Ae (s:Int),Ae ((0:Nat):Int),Ae (g:Int),Ae ((0:Nat):Int),Ae (x:Int),Ae ((0:Nat):Int),Ae (z.2.2:Int),Ae ((0:Nat):Int)],[.row false (.al (stA S)),.row true (.ac [.sl 4 0 z.2.1 z.2.1 3,.mp 5]),.row true (.ab w),.row true (.ab [kb]),.row true (.an z.1),.row true (.mp (Bk z.1))]⟩) (L4,N4,t) ?_ ?_
  ·rcases o4 with ⟨hf,h1,h2⟩ | ⟨hf,h1,h2,h3⟩
   ·obtain rfl:=h1
    obtain rfl:=h2
    refine Ar ?_;refine Nu ?_;refine AR ?_;refine Qz (u:=[(k:Int)]) (y:=p) (len:=1) (n:=pn) rfl rfl rfl underlying41 underlying41 QK rfl hpl O_ AH AM rfl ?_;refine il (R0 L4 N4 8 0 ([(k:Int)]++p) (1+pn) (1+pn) m3.ok m3.len O_ (by simp [hpl];try omega) O_ hr4 he4 t hf) K1 ?_
    refine F1 ?_;exact ⟨(L4,N4,t),K_,rfl⟩
   ·obtain rfl:=h1
    obtain rfl:=h2
    obtain rfl:=h3
    refine Ar ?_;refine Nu ?_;refine AR ?_;refine Qz (u:=[(k:Int)]) (y:=p) (len:=1) (n:=pn) rfl rfl rfl underlying41 underlying41 QK rfl hpl O_ AH AM rfl ?_;refine il (RY L3 t 8 0 ([(k:Int)]++p) (1+pn) (1+pn) m3.ok m3.len O_ (by simp [hpl];try omega) O_ hr4 he4 hf) K1 ?_
    refine F1 ?_;exact ⟨(L3++[⟨8,0,[(k:Int)]++p⟩],t+1,t),K_,rfl⟩
  dsimp only
  refine S_ ?_;have l0:∀z,z<N→Aa L4 z=Aa L z:=fun z hz=>by rw [m4.old (by rw [m3.len];omega),m3.old (by rw [m2.len];omega),m2.old (by rw [m1.len];omega),m1.old (by rw [hN];exact hz)]
  have gs:Aa L4 s=⟨6,0,(k:Int)::p⟩:=by rw [m4.old (by rw [m3.len];omega),m3.old (by rw [m2.len];omega),m2.old (by rw [m1.len];omega)];exact m1.is_
  have gg:Aa L4 g=⟨5,0,[(k:Int)]⟩:=by rw [m4.old (by rw [m3.len];omega),m3.old (by rw [m2.len];omega)];exact m2.is_
  have gx:Aa L4 x=⟨7,0,(g:Int)::(d:Int)::p⟩:=by rw [m4.old (by rw [m3.len];omega)];exact m3.is_
  have gt:Aa L4 t=⟨8,0,(k:Int)::p⟩:=m4.is_
  obtain ⟨u,hu⟩:∃u,L4=L++u:=by
   obtain ⟨u1,h1⟩:=m1.pre
   obtain ⟨u2,h2⟩:=m2.pre
   obtain ⟨u3,h3⟩:=m3.pre
   obtain ⟨u4,h4⟩:=m4.pre
   exact ⟨u1++(u2++(u3++u4)),by rw [h4,h3,h2,h1];simp⟩
  have kv:BU Cz L4 k=BU Cz L k:=by rw [hu];exact SO hA O_
  have dv:BU Cz L4 d=BU Cz L d:=by rw [hu];exact SO hA O_
  obtain ⟨pB,pv⟩:=qH (t:=u) hA (by rw [hN];exact hpin) hpB
  rw [←hu] at pB pv
  have h4:=AAw m4.ok m4.len O_ O_ O_ O_ gs gg gx gt (by rw [kv];exact hk0) (by rw [dv];exact hd0) pB (pv.trans hpw.symm) hj
  rw [kv,dv,hkv,hdv] at h4
  have hB4:=NZ L4 (Bk L4) N4 [(s:Int),(g:Int),(x:Int),(t:Int)] m4.len O_ m4.ok (by simp) (by intro z hz;simp at hz;omega)
  rw [h4] at hB4
  have hKl:(AJ kb).length=32:=Ap _
  have hDl:(AJ db).length=32:=Ap _
  have hKe:=Um kb O_
  have r1:=jZ hKl hj
  have r2:=sN hKl hDl hj
  have r3:=ru hKl hj
  have ls:=CZ (AJ kb) (Ag 12) [] (jn w) hKl (A1 12)
  have lx:=CZ (S4 (AJ db) (F6 (AJ kb))) (Ag 12) [] (jn w) (Ki _ _) (A1 12)
  have lt:=Ik (AJ kb) (jn w) hKl
  have lp:=MK (AJ kb)
  have lq:=MK (AJ db)
  have lg:=Pu (AJ kb) hKl
  have hO:=TQ (AJ kb) (BP (AJ kb) (Ag 12) [] (jn w)) hKl O_
  have hU:=eX (AJ kb) (F6 (AJ db)++BP (S4 (AJ db) (F6 (AJ kb))) (Ag 12) [] (jn w)) hKl (by rw [List.length_append];omega)
  have hG:=cz (F6 (AJ kb)++H3 (AJ kb)) (DK (AJ kb) (jn w)++jn w) (by rw [List.length_append];omega) (by rw [List.length_append];omega)
  rw [r1] at hO
  rw [r2] at hU
  rw [r3] at hG
  clear r1 r2 r3 ls lx lt lp lq lg h4 l0 gs gg gx gt kv dv pv pB
  generalize BP (AJ kb) (Ag 12) [] (jn w)=v1 at*
  generalize F6 (AJ db)++BP (S4 (AJ db) (F6 (AJ kb))) (Ag 12) [] (jn w)=v3 at*
  generalize DK (AJ kb) (jn w)++jn w=v4 at*
  generalize F6 (AJ kb)++H3 (AJ kb)=v2 at*
  generalize AJ kb=KK at*
  dsimp only at hO hU hG hB4
  rw [hq1] at hO hU hG
  have hl4:[v1,v2,v3,v4].length=4:=rfl
  have hl1:[kb].length=1:=rfl
  have hRw:=sJ w q1 q1 q1 hq1 O_ (fun z hz=>by obtain ⟨i,hi,rfl⟩:=List.getElem_of_mem hz;have:=w1.2 i;simp [Fh,hi] at this;omega)
  refine A9 ?_;refine FF ?_;refine BJ ?_;refine FF ?_;refine Kw ?_;refine FF ?_;refine Kw ?_;refine FF ?_;refine CQ ?_;refine Df ?_;refine FZ ?_;refine AR ?_;refine Cs (L5 (Ev.mem (Wj (l:=[_,_,_,_]) underlying41 QK rfl rfl D_ D_ AH)) AH An rfl) rfl ?_;refine Bh (AY (bs:=[1,4,5]) (hB4) iz K_ K_ rfl BT) AM rfl ?_;refine GQ ?_;refine FO ?_;refine A6 ?_;refine KT ?_;refine Ah ?_;refine fX ?_;refine OC ?_;refine Am (hKe) XV ?_;refine Ah ?_;refine fX ?_;refine OC ?_;refine Am (hO) rg ?_;refine Fi ?_;refine G1 ?_;refine A6 ?_;refine KT ?_;refine Ah ?_;refine fX ?_;refine OC ?_;refine Am (hKe) XV ?_;refine Ah ?_;refine AE (DI (j:=2) rfl rfl underlying22 Nn O_) rfl ?_;refine OC ?_;refine Am (hU) ABO ?_;refine Fi ?_;refine G1 ?_;refine A6 ?_;refine KL ?_;refine Ah ?_;refine AE (DI (j:=1) rfl rfl underlying22 Nn O_) rfl ?_;refine OC ?_;refine Ah ?_;refine AE (DI (j:=3) rfl rfl underlying22 Nn O_) rfl ?_;refine OC ?_;refine Am (hG) zp ?_;refine Fi ?_;refine G1 ?_;refine AZ ?_;refine Ju ?_;refine BJ ?_;refine Ju ?_;refine Cg ?_;refine BJ ?_;refine Ju ?_;refine Cg ?_;refine BJ ?_;refine FS ?_;refine Bh (AY (bs:=[7,2]) (hRw) nl K_ K_ rfl BT) AM rfl ?_;refine Cg ?_;refine BJ ?_;refine FS ?_;refine Bh (AY (bs:=[8,2]) (hRw) nl K_ K_ rfl BT) AM rfl ?_;refine Cg ?_;refine BJ ?_;refine FS ?_;refine Bh (AY (bs:=[9,2]) (hRw) nl K_ K_ rfl BT) AM rfl ?_;refine Cg ?_;refine FS ?_;refine A7 (hW) Nl ?_;refine Cg ?_;exact B6
end Go.Proofs.YtmbepikkgkcgkaaGreatDoor
namespace Go.Proofs.YtmbepikkgkcgkaaGreatDoor
open Go.ChangeShapes Go.WideShapes Go.ChangeAt Go.RowKit
variable {g r : Prop}
open Go.Proofs.Tryz
theorem yl{H:Type}{enc:TypeId×Value→H}{P:Program}{w:World}{base:Nat}{held:Bool}{r:Reach}{b0:Nat}{t e:TypeId}{v:Value}{d:DataW H}{ps:List MemPlace}(ht:P.underlying t=some (.slice e))(he:P.underlying e=some (.int .i64))(hc:P.cellsOf e=1)(hval:Value.okWide P w r b0 t v)(hd:DataW.Trod enc P w base (fun _=>true) held t v d ps):
  ∃l:List Int,l.length≤maxLen∧(∀x∈l,Sg x)∧ ∀ι:Emb,ι.tx=XS w→(Cell.is l).rel ι v:=by
 obtain ⟨a0,len0,cap0,rfl⟩:=okWide_slice ht hval
 obtain ⟨fuel,hf⟩:=hd
 obtain ⟨v,a,hcs,h1,h2,h3⟩:=cJ ht he hc hf
 simp [Value.cells] at hcs
 subst hcs
 exact ⟨a,h1,h2,h3⟩
theorem tG(S:List Stp)(hnl:S.length≤9223372036854775807)(hnum:∀i,i<S.length→Sg (CX S i).k∧Sg (CX S i).n∧ ∀x∈(CX S i).a,Sg x)(hlen:∀i,i<S.length→(CX S i).a.length≤9223372036854775807)(k:Int)(hk: -9223372036854775808≤k∧k≤9223372036854775807)(d:Int)(hd: -9223372036854775808≤d∧d≤9223372036854775807)(ps:List Int)(hpn:ps.length≤9223372036854775807)(hpr:∀x∈ps,Sg x):
  Ev prog (.call 8 [.c (.sl 0 0 S.length S.length 4),.c (.val (.int .i64 k)),.c (.val (.int .i64 d)),.c (.is ps)] [.row false (.al (stA S))]) (.val (.c (.val (.bool true))) [.row false (.al (stA S))]):=
 re S S.length S.length k d ps rfl hnl hnum hlen hk hd hpr hpn
end Go.Proofs.YtmbepikkgkcgkaaGreatDoor
