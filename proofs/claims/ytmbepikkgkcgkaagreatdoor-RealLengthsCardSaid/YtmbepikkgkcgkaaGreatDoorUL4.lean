/- Merged and shortened by a program: part 4. -/
import Derived.Test.YtmbepikkgkcgkaaGreatDoorUL3
set_option maxRecDepth 100000
set_option maxHeartbeats 8000000
namespace Go.Proofs.YtmbepikkgkcgkaaGreatDoor
open Go.RowKit
variable {g r : Prop}
open Go.Proofs.Tryz
theorem PX.rel{m':Ag}{w:World}{ι:Emb}(hR:R ι m' w)(hro:fI m'=true){fs:List Nat}{l l':List AV}(h:PX m' fs l l'):(∀b,fs.contains b=true→ι b=none)→ ∀ {vs:List Value},CS ι l vs→
  ∃ι':Emb,R ι' m' w∧ι'.tx=ι.tx∧ι.le ι'∧(∀i,fs.contains i=false→ι' i=ι i)∧CS ι' l' vs:=by
 have args:∀ {l:List AV} {vs:List Value} {ι ι':Emb},ι.le ι'→CS ι l vs→CS ι' l vs:=by
  intro l
  induction l with
  |nil=>intro vs ι ι' _ h;cases vs<;>exact h
  |cons x l ih=>intro vs ι ι' hl h;cases vs with
   |nil=>exact h
   |cons v vs=>exact ⟨AV.rel_mono hl h.1,ih hl h.2⟩
 induction h with
 |nil=>intro _ vs hr;exact ⟨ι,hR,rfl,.refl _,fun _ _=>rfl,hr⟩
 |same _ ih=>
  intro hfs vs hr
  cases vs with
  |nil=>exact hr.elim
  |cons v vs=>
   obtain ⟨ι',k1,k2,k3,k4,k5⟩:=ih hfs hr.2
   exact ⟨ι',k1,k2,k3,k4,AV.rel_mono k3 hr.1,k5⟩
 |@bs fs b y l l' hm hb _ ih=>
  intro hfs vs hr
  cases vs with
  |nil=>exact hr.elim
  |cons v vs=>
   obtain ⟨ι',k1,k2,k3,k4,k5⟩:=ih (fun i hi=>hfs i (by simp only [List.contains_cons,hi,Bool.or_true])) hr.2
   have h0:ι' b=none:=by rw [k4 b hb];exact hfs b (by simp)
   have hv:Cc ι' (fun i=>U8 (nth y i)) (Arr.a8 y).size v:=Cell.rel_mono (x:= .bs y) k3 hr.1
   obtain ⟨ι2,j1,j2,j3,j4,j5⟩:=ZZ k1 hro hm h0 rfl (fun _ _ _=>rfl) hv
   refine ⟨ι2,j1,j2.trans k2,⟨fun b l h=>j3.f b l (k3.f b l h),fun c o v h=>j3.tx c o v (k3.tx c o v h)⟩,fun i hi=>?_,j5,args j3 k5⟩
   simp only [List.contains_cons,Bool.or_eq_false_iff] at hi
   rw [j4 i (by simpa using hi.1),k4 i hi.2]
 |@is fs b y l l' hm hb _ ih=>
  intro hfs vs hr
  cases vs with
  |nil=>exact hr.elim
  |cons v vs=>
   obtain ⟨ι',k1,k2,k3,k4,k5⟩:=ih (fun i hi=>hfs i (by simp only [List.contains_cons,hi,Bool.or_true])) hr.2
   have h0:ι' b=none:=by rw [k4 b hb];exact hfs b (by simp)
   have hv:Cc ι' (fun i=> .int .i64 (y.getD i 0)) (Arr.ai y).size v:=Cell.rel_mono (x:= .is y) k3 hr.1
   obtain ⟨ι2,j1,j2,j3,j4,j5⟩:=ZZ k1 hro hm h0 rfl (fun _ _ _=>rfl) hv
   refine ⟨ι2,j1,j2.trans k2,⟨fun b l h=>j3.f b l (k3.f b l h),fun c o v h=>j3.tx c o v (k3.tx c o v h)⟩,fun i hi=>?_,j5,args j3 k5⟩
   simp only [List.contains_cons,Bool.or_eq_false_iff] at hi
   rw [j4 i (by simpa using hi.1),k4 i hi.2]
theorem Ev.partsB{P:Program}{f:FuncId}{m m' N N':Ag}{args args1 args':List AV}{v v':AV}(os:List (Option (Nat×Nat)))(fs:List Nat)(hr:Ey m os m')(ha:SV (TV os) args args1)(hs:PX m' fs args1 args')(hro:fI m'=true)(hfs:fs.all (fun b=>(TV os b).isNone)=true)
  (h:Ev P (.call f args' m') (.val v (m'++N))) (hv:v.ren (Hz m'.length m.length)=v') (hN:N.map (Row.ren (Hz m'.length m.length))=N'):Ev P (.call f args m) (.val v' (m++N')):=by
 subst hv hN
 refine Ev.semF fun ι w vs hR hargs=>?_
 obtain ⟨ιp,k1,k2,k3,k4,k5⟩:=hs.rel (ss hr.of hR) hro (fun b hb=>by
  have:=List.all_eq_true.1 hfs b (by simpa using hb)
  unfold GC
  simp only [Option.isNone_iff_eq_none] at this
  simp only [this,Option.bind_none]) (ha.rel hargs)
 refine (sound h ιp w vs k1 k5).mono fun e' w' hq=>?_
 obtain ⟨u,ι1,rfl,hv,hst⟩:=hq
 obtain ⟨ι2,hsame,hst⟩:=UK (ι:=ι) (fun c ⟨b,l,x,_,h2,_⟩=>by have:=Ou hro h2;cases this) k2 hR hst
 exact ⟨u,ι2,rfl,AV.ren_rel hsame hv,hst⟩
structure WO(P:Program)(k:Nat)(ops:Array Oper)(l:List Oper)(s:St)(K:St→Prop):Prop where
 h:∃r,Ev P (.ops k ops l s) (.out .normal r)∧K r
structure WC(P:Program)(k:Nat)(c:Code)(s:St)(Φ:Ex→St→Prop):Prop where
 h:∃e r,Ev P (.code k c s) (.out e r)∧Φ e r
theorem Cg{α:Type}(l:List α)(o n:Nat):(cut l o n).length=min n (l.length-o):=by simp [cut]
theorem fc{n:Nat}(l:AB n)(i:Nat)(v:BitVec n):l.set i v=put l i v:=rfl
theorem RW{n:Nat}(l:AB n)(k:Nat)(x y:BitVec n):put (put l k x) k y=put l k y:=by simp [put]
theorem ax(l:List Int)(i:Nat)(v:Int):(Vg l i v).length=l.length:=by simp [Vg]
theorem sc(l:AB 8)(i:Nat)(v:BitVec 8):(Arr.a8 l).set i (.val (U8 v))=some (.a8 (put l i v)):=by simp [Arr.set]
theorem rU(l:AB 32)(i:Nat)(v:BitVec 32):(Arr.a32 l).set i (.val (Es v))=some (.a32 (put l i v)):=by simp [Arr.set]
theorem nY(l:AB 64)(i:Nat)(v:BitVec 64):(Arr.a64 l).set i (.val (BP v))=some (.a64 (put l i v)):=by simp [Arr.set]
theorem ud(l:List Int)(i:Nat)(v:Int):(Arr.ai l).set i (.val (.int .i64 v))=some (.ai (Vg l i v)):=by simp [Arr.set,i?]
theorem zK(l:List Cell)(i:Nat)(c:Cell):(Arr.ac l).set i c=some (.ac (od l i c)):=rfl
section
variable {P:Program} {k N:Nat} {ops:Array Oper} {d:Nat} {ty:TypeId} {pos:String} {af:Array Edge} {l:List Oper} {T:Nat→AV} {M M':Ag} {K:St→Prop}
theorem AM{s:St}(h:K s):WO P k ops [] s K:=⟨⟨s,Ev.nil,h⟩⟩
theorem AA{op:Op}{v:AV}(h:AI P (AC T) M op=some v)(hd:decide (d<N)=true)(hk:WO P k ops l ⟨N,upd T d v,M⟩ K):WO P k ops (⟨some d,op,ty,pos,af,none⟩::l) ⟨N,T,M⟩ K:=
 let ⟨r,h1,h2⟩:=hk.h;⟨⟨r,Ev.cons rfl hd (Ev.val h) h1,h2⟩⟩
theorem QX{op:Op}{v:AV}(h:CK P (AC T) M op=some (v,M'))(hd:decide (d<N)=true)(hk:WO P k ops l ⟨N,upd T d v,M'⟩ K):WO P k ops (⟨some d,op,ty,pos,af,none⟩::l) ⟨N,T,M⟩ K:=
 let ⟨r,h1,h2⟩:=hk.h;⟨⟨r,Ev.cons rfl hd (Ev.mem h) h1,h2⟩⟩
theorem kD{op:Op}{v:AV}(h:CK P (AC T) M op=some (v,M'))(hk:WO P k ops l ⟨N,T,M'⟩ K):WO P k ops (⟨none,op,ty,pos,af,none⟩::l) ⟨N,T,M⟩ K:=
 let ⟨r,h1,h2⟩:=hk.h;⟨⟨r,Ev.cons rfl rfl (Ev.mem h) h1,h2⟩⟩
theorem A2{op:Op}{v:AV}{news:Ag}(h:CK P (AC T) M op=some (v,M++news))(hM:M++news=M')(hd:decide (d<N)=true)(hk:WO P k ops l ⟨N,upd T d v,M'⟩ K):WO P k ops (⟨some d,op,ty,pos,af,none⟩::l) ⟨N,T,M⟩ K:=
 QX (by rw [h,hM]) hd hk
theorem DK{op:Op}{v:AV}(h:Ev P (.op op (AC T) M) (.val v M'))(hd:decide (d<N)=true)(hk:WO P k ops l ⟨N,upd T d v,M'⟩ K):WO P k ops (⟨some d,op,ty,pos,af,none⟩::l) ⟨N,T,M⟩ K:=
 let ⟨r,h1,h2⟩:=hk.h;⟨⟨r,Ev.cons rfl hd h h1,h2⟩⟩
theorem fZ{op:Op}{v:AV}(h:Ev P (.op op (AC T) M) (.val v M'))(hk:WO P k ops l ⟨N,T,M'⟩ K):WO P k ops (⟨none,op,ty,pos,af,none⟩::l) ⟨N,T,M⟩ K:=
 let ⟨r,h1,h2⟩:=hk.h;⟨⟨r,Ev.cons rfl rfl h h1,h2⟩⟩
theorem Bq{op:Op}{v:AV}{news:Ag}(h:Ev P (.op op (AC T) M) (.val v (M++news)))(hM:M++news=M')(hd:decide (d<N)=true)(hk:WO P k ops l ⟨N,upd T d v,M'⟩ K):WO P k ops (⟨some d,op,ty,pos,af,none⟩::l) ⟨N,T,M⟩ K:=
 DK (by rw [←hM];exact h) hd hk
theorem Kp{o:Oper}{s:St}(hw:B3 ops s.t o=some true)(h:WO P k ops (⟨o.dst,o.op,o.type,o.pos,o.after,none⟩::l) s K):WO P k ops (o::l) s K:=by
 obtain ⟨r,h1,h2⟩:=h.h
 refine ⟨⟨r,?_,h2⟩⟩
 cases h1 with
 |cons hw' hd h hk=>exact Ev.cons hw hd h hk
 |skip hw' hd hk=>cases hw'
theorem NK{o:Oper}{s:St}(hw:B3 ops s.t o=some false)(hd:az s.n o.dst=true)(h:WO P k ops l ⟨s.n,CZ s.t o.dst jd,s.m⟩ K):WO P k ops (o::l) s K:=
 let ⟨r,h1,h2⟩:=h.h;⟨⟨r,Ev.skip hw hd h1,h2⟩⟩
def HW (P : Program) (ops : Array Oper) (K : St → Prop) : List Oper → St → Prop
  | [], s => K s
  | o :: l, s => (B3 ops s.t o = some true ∧ ∃ v news, Ev P (.op o.op (AC s.t) (BT s.m)) (.val v (BT s.m ++ news)) ∧ HW P ops K l ⟨s.n, CZ s.t o.dst v, s.m ++ news⟩) ∨
      (B3 ops s.t o = some false ∧ HW P ops K l ⟨s.n, CZ s.t o.dst jd, s.m⟩)
structure HO(P:Program)(ops:Array Oper)(l:List Oper)(s:St)(K:St→Prop):Prop where
 h:HW P ops K l s
theorem Bc{s:St}(h:K s):HO P ops [] s K:=⟨h⟩
theorem AE{op:Op}{v:AV}(h:AI P (AC T) (BT M) op=some v)(_hd:decide (d<N)=true)(hk:HO P ops l ⟨N,upd T d v,M⟩ K):HO P ops (⟨some d,op,ty,pos,af,none⟩::l) ⟨N,T,M⟩ K:=
 ⟨.inl ⟨rfl,v,[],by rw [List.append_nil];exact Ev.val h,by rw [List.append_nil];exact hk.h⟩⟩
theorem Jz{op:Op}{v:AV}{news:Ag}(h:CK P (AC T) (BT M) op=some (v,BT M++news))(hM:M++news=M')(_hd:decide (d<N)=true)(hk:HO P ops l ⟨N,upd T d v,M'⟩ K):HO P ops (⟨some d,op,ty,pos,af,none⟩::l) ⟨N,T,M⟩ K:=
 ⟨.inl ⟨rfl,v,news,Ev.mem h,by rw [hM];exact hk.h⟩⟩
theorem Iv{op:Op}{v:AV}{news:Ag}(h:Ev P (.op op (AC T) (BT M)) (.val v (BT M++news)))(hM:M++news=M')(_hd:decide (d<N)=true)(hk:HO P ops l ⟨N,upd T d v,M'⟩ K):HO P ops (⟨some d,op,ty,pos,af,none⟩::l) ⟨N,T,M⟩ K:=
 ⟨.inl ⟨rfl,v,news,h,by rw [hM];exact hk.h⟩⟩
theorem Km{o:Oper}{s:St}(hw:B3 ops s.t o=some true)(h:HO P ops (⟨o.dst,o.op,o.type,o.pos,o.after,none⟩::l) s K):HO P ops (o::l) s K:=by
 rcases h.h with ⟨_,r⟩ | ⟨h0,_⟩
 ·exact ⟨.inl ⟨hw,r⟩⟩
 ·cases h0
theorem L5{o:Oper}{s:St}(hw:B3 ops s.t o=some false)(h:HO P ops l ⟨s.n,CZ s.t o.dst jd,s.m⟩ K):HO P ops (o::l) s K:=⟨.inr ⟨hw,h.h⟩⟩
theorem HW.line{s0:St}:∀ {l:List Oper} {s:St},HW P ops K l s→s.n=s0.n→ ∃(A:Nat→St) (W:Nat→Bool) (V:Nat→AV) (N:Nat→Ag),A 0=s∧(∀i o,l[i]?=some o→B3 ops (A i).t o=some (W i))∧
  (∀i o,l[i]?=some o→W i=true→Ev P (.op o.op (AC (A i).t) (BT (A i).m)) (.val (V i) (BT (A i).m++N i)))∧
  (∀i o,l[i]?=some o→A (i+1)=if W i=true then ⟨s0.n,CZ (A i).t o.dst (V i),(A i).m++N i⟩ else ⟨s0.n,CZ (A i).t o.dst jd,(A i).m⟩)∧K (A l.length)
 |[],s,h,_=>⟨fun _=>s,fun _=>true,fun _=> .c .any,fun _=>[],rfl,fun i o h=>by simp at h,fun i o h=>by simp at h,fun i o h=>by simp at h,h⟩
 |o::l,s,h,hn=>by
  rcases h with ⟨hw,v,news,hv,hr⟩ | ⟨hw,hr⟩
  ·obtain ⟨A,W,V,N,h0,h1,h2,h3,h4⟩:=HW.line (s:=⟨s.n,CZ s.t o.dst v,s.m++news⟩) hr hn
   refine ⟨fun i=>match i with | 0=>s | i+1=>A i,fun i=>match i with | 0=>true | i+1=>W i,fun i=>match i with | 0=>v | i+1=>V i,fun i=>match i with | 0=>news | i+1=>N i,rfl,fun i o' h=>?_,fun i o' h hw'=>?_,fun i o' h=>?_,h4⟩
   ·cases i with
    |zero=>simp at h;subst h;exact hw
    |succ i=>exact h1 i o' (by simpa using h)
   ·cases i with
    |zero=>simp at h;subst h;exact hv
    |succ i=>exact h2 i o' (by simpa using h) hw'
   ·cases i with
    |zero=>simp at h;subst h;simp only [if_true];rw [h0,hn]
    |succ i=>exact h3 i o' (by simpa using h)
  ·obtain ⟨A,W,V,N,h0,h1,h2,h3,h4⟩:=HW.line (s:=⟨s.n,CZ s.t o.dst jd,s.m⟩) hr hn
   refine ⟨fun i=>match i with | 0=>s | i+1=>A i,fun i=>match i with | 0=>false | i+1=>W i,fun i=>match i with | 0=> .c .any | i+1=>V i,fun i=>match i with | 0=>[] | i+1=>N i,rfl,fun i o' h=>?_,fun i o' h hw'=>?_,fun i o' h=>?_,h4⟩
   ·cases i with
    |zero=>simp at h;subst h;exact hw
    |succ i=>exact h1 i o' (by simpa using h)
   ·cases i with
    |zero=>cases hw'
    |succ i=>exact h2 i o' (by simpa using h) hw'
   ·cases i with
    |zero=>simp at h;subst h;simp only;rw [h0,hn];rfl
    |succ i=>exact h3 i o' (by simpa using h)
theorem EQ{id:Nat}{l hl tl:List Oper}{s:St}{Φ:Ex→St→Prop}(n:Nat)(hm:P.follows .mixedOrders=true)(hok:Region.okAll l.toArray n s.n=true)(h1:l.take n=hl)(h2:l.drop n=tl)(hlen:hl.length=n)(h:HO P l.toArray hl s fun s'=>WO P k l.toArray tl s' (Φ .normal)):
  WC P k (.region id l.toArray true) s Φ:=by
 obtain ⟨A,W,V,N',h0,g1,g2,g3,g4⟩:=HW.line (s0:=s) h.h rfl
 obtain ⟨r,h3,h4⟩:=g4.h
 have conv:∀(i:Nat) (o:Oper),i<n→l.toArray[i]?=some o→hl[i]?=some o:=fun i o hi ho=>by
  rw [←h1,List.getElem?_take,if_pos hi];simpa using ho
 exact ⟨⟨.normal,r,Ev.draw n A W V N' hm hok h0 (fun i o hi ho=>g1 i o (conv i o hi ho)) (fun i o hi ho=>g2 i o (conv i o hi ho)) (fun i o hi ho=>g3 i o (conv i o hi ho)) (by rw [hlen] at h3;simpa [h2] using h3),h4⟩⟩
def Gr:List Oper→Nat→Nat→List Oper
 |[],_,_=>[]
 |o::l,0,i0=>{ o with after:=o.after.push ⟨i0,.data⟩ }::l
 |o::l,n+1,i0=>o::Gr l n i0
theorem Oe:∀(l:List Oper) (n i0 j:Nat),(Gr l n i0)[j]?=if j=n then l[j]?.map fun o=>{ o with after:=o.after.push ⟨i0,.data⟩ } else l[j]?
 |[],n,i0,j=>by simp [Gr]
 |o::l,0,i0,0=>by simp [Gr]
 |o::l,0,i0,j+1=>by simp [Gr]
 |o::l,n+1,i0,0=>by simp [Gr]
 |o::l,n+1,i0,j+1=>by simp [Gr,Oe l n i0 j]
theorem O0(l:List Oper)(n i0:Nat):BF l.toArray n i0=(Gr l n i0).toArray:=by
 apply Array.ext_getElem?
 intro j
 have e1:(Gr l n i0).toArray[j]?=(Gr l n i0)[j]?:=List.getElem?_toArray
 have e2:l.toArray[j]?=l[j]?:=List.getElem?_toArray
 rw [e1,Oe]
 by_cases h:j=n
 ·subst h
  rw [if_pos rfl]
  cases ho:l[j]? with
  |none=>unfold BF;rw [e2,ho];simp [ho]
  |some o=>rw [Qv (by rw [e2];exact ho)];rfl
 ·rw [if_neg h,OZ h,e2]
theorem cT{id:Nat}{l hl tl:List Oper}{s:St}{Φ:Ex→St→Prop}{d:Option Tmp}{op:Op}{ty:TypeId}{pos:String}{af:Array Edge}{g:Option (Nat×Bool)}(n i0:Nat)(hm:P.follows .mixedOrders=true)(hc:Lg l.toArray n i0=true)(hok:Region.okAll (Gr l n i0).toArray n s.n=true)(h1:l.take n=hl)(h2:l.drop n=⟨d,op,ty,pos,af,g⟩::tl)(hlen:hl.length=n)
  (h:HO P (Gr l n i0).toArray hl s fun s'=>WO P k (Gr l n i0).toArray (⟨d,op,ty,pos,af.push ⟨i0,.data⟩,g⟩::tl) s' (Φ .normal)):WC P k (.region id l.toArray true) s Φ:=by
 obtain ⟨A,W,V,N',h0,g1,g2,g3,g4⟩:=HW.line (s0:=s) h.h rfl
 obtain ⟨r,h3,h4⟩:=g4.h
 have ne:∀i,i<n→(Gr l n i0)[i]?=l[i]?:=fun i hi=>by rw [Oe,if_neg O_]
 have conv:∀(i:Nat) (o:Oper),i<n→(BF l.toArray n i0)[i]?=some o→hl[i]?=some o:=fun i o hi ho=>by
  rw [O0,show (Gr l n i0).toArray[i]?=(Gr l n i0)[i]? from List.getElem?_toArray,ne i hi] at ho
  rw [←h1,List.getElem?_take,if_pos hi];exact ho
 have hd:(Gr l n i0).drop n=⟨d,op,ty,pos,af.push ⟨i0,.data⟩,g⟩::tl:=by
  apply List.ext_getElem?
  intro j
  rw [List.getElem?_drop,Oe]
  have e:=congrArg (fun l=>l[j]?) h2
  simp only [List.getElem?_drop] at e
  cases j with
  |zero=>rw [if_pos O_,e];rfl
  |succ j=>rw [if_neg O_,e];rfl
 refine ⟨⟨.normal,r,Ev.late n i0 A W V N' hm hc (by rw [O0];exact hok) h0 (fun i o hi ho=>?_) (fun i o hi ho=>g2 i o (conv i o hi ho)) (fun i o hi ho=>g3 i o (conv i o hi ho)) ?_,h4⟩⟩
 ·rw [O0];exact g1 i o (conv i o hi ho)
 ·rw [hlen] at h3
  rw [O0]
  show Ev P (.ops k (Gr l n i0).toArray ((Gr l n i0).drop n) (A n)) (.out .normal r)
  rw [hd];exact h3
def SW (P : Program) (D : Nat) (K : St → Prop) : List Oper → St → Prop
  | [], s => K s
  | o :: l, s => (A8 o = true ∧ ∃ v m', CK P (AC s.t) s.m o.op = some (v, m') ∧ m'.length = s.m.length ∧ SW P D K l ⟨s.n, s.t, m'⟩) ∨
      (A8 o = false ∧ ∃ v, AI P (AC s.t) (GB D) o.op = some v ∧ SW P D K l ⟨s.n, CZ s.t o.dst v, s.m⟩)
structure DO(P:Program)(D:Nat)(l:List Oper)(s:St)(K:St→Prop):Prop where
 h:SW P D K l s
theorem yC{D:Nat}{s:St}(h:K s):DO P D [] s K:=⟨h⟩
theorem Jr{D:Nat}{op:Op}{v:AV}(h:AI P (AC T) (GB D) op=some v)(hs:A8 ⟨some d,op,ty,pos,af,none⟩=false)(hk:DO P D l ⟨N,upd T d v,M⟩ K):DO P D (⟨some d,op,ty,pos,af,none⟩::l) ⟨N,T,M⟩ K:=
 ⟨.inr ⟨hs,v,h,hk.h⟩⟩
theorem pW{D:Nat}{t:TypeId}{a v:Operand}{b o:Nat}{x z:Arr}{c:Cell}(ha:AC T a= .c (.ptr b o))(hv:AC T v= .c c)(hm:M[b]?=some (.row true x))(h1:c.one=true)(hs:DN P t=some 1)(ho:o<x.size)(hz:x.set o c=some z)(hM:M.set b (.row true z)=M')
  (hk:DO P D l ⟨N,T,M'⟩ K):DO P D (⟨none,.store t a v,ty,pos,af,none⟩::l) ⟨N,T,M⟩ K:=
 ⟨.inl ⟨rfl,.c .any,M',by simp [CK,H4,ha,hv,hm,h1,hs,ho,hz,hM],by rw [←hM];simp,hk.h⟩⟩
theorem ZP {D : Nat} {t : TypeId} {a v : Operand} {b o : Nat} {x : AB 8} {w : BitVec 8} (ha : AC T a = .c (.ptr b o)) (hv : AC T v = .c (.val (U8 w))) (hm : M[b]? = some (.row true (.a8 x))) (hs : DN P t = some 1) (ho : o < x.length) (hM : M.set b (.row true (.a8 (put x o w))) = M')
    (hk : DO P D l ⟨N, T, M'⟩ K) : DO P D (⟨none, .store t a v, ty, pos, af, none⟩ :: l) ⟨N, T, M⟩ K := pW ha hv hm rfl hs ho (sc x o w) hM hk
theorem SW.line{s0:St}{D:Nat}:∀ {l:List Oper} {s:St},SW P D K l s→s.n=s0.n→ ∃(A:Nat→St) (V:Nat→AV),A 0=s∧
  (∀i o,l[i]?=some o→A8 o=false→AI P (AC (A i).t) (GB D) o.op=some (V i)∧A (i+1)=⟨s0.n,CZ (A i).t o.dst (V i),(A i).m⟩)∧
  (∀i o,l[i]?=some o→A8 o=true→ ∃v m',CK P (AC (A i).t) (A i).m o.op=some (v,m')∧m'.length=(A i).m.length∧A (i+1)=⟨s0.n,(A i).t,m'⟩)∧K (A l.length)
 |[],s,h,_=>⟨fun _=>s,fun _=> .c .any,rfl,fun i o h=>by simp at h,fun i o h=>by simp at h,h⟩
 |o::l,s,h,hn=>by
  rcases h with ⟨hs,v,m',hv,hl,hr⟩ | ⟨hs,v,hv,hr⟩
  ·obtain ⟨A,V,h0,h1,h2,h3⟩:=SW.line (s:=⟨s.n,s.t,m'⟩) hr hn
   refine ⟨fun i=>match i with | 0=>s | i+1=>A i,fun i=>match i with | 0=> .c .any | i+1=>V i,rfl,fun i o' h hs'=>?_,fun i o' h hs'=>?_,h3⟩
   ·cases i with
    |zero=>simp at h;subst h;rw [hs] at hs';cases hs'
    |succ i=>exact h1 i o' (by simpa using h) hs'
   ·cases i with
    |zero=>simp at h;subst h;exact ⟨v,m',hv,hl,by simp only;rw [h0,hn]⟩
    |succ i=>exact h2 i o' (by simpa using h) hs'
  ·obtain ⟨A,V,h0,h1,h2,h3⟩:=SW.line (s:=⟨s.n,CZ s.t o.dst v,s.m⟩) hr hn
   refine ⟨fun i=>match i with | 0=>s | i+1=>A i,fun i=>match i with | 0=>v | i+1=>V i,rfl,fun i o' h hs'=>?_,fun i o' h hs'=>?_,h3⟩
   ·cases i with
    |zero=>simp at h;subst h;exact ⟨hv,by simp only;rw [h0,hn]⟩
    |succ i=>exact h1 i o' (by simpa using h) hs'
   ·cases i with
    |zero=>simp at h;subst h;rw [hs] at hs';cases hs'
    |succ i=>exact h2 i o' (by simpa using h) hs'
theorem mD{id:Nat}{l:List Oper}{s:St}{Φ:Ex→St→Prop}(hm:P.follows .mixedOrders=true)(hok:Region.okStores l.toArray s.n=true)(h:DO P s.m.length l s (Φ .normal)):WC P k (.region id l.toArray true) s Φ:=by
 obtain ⟨A,V,h0,h1,h2,h3⟩:=SW.line (s0:=s) h.h rfl
 exact ⟨⟨.normal,_,Ev.stores A V hm hok h0 (fun i o ho=>h1 i o (by simpa using ho)) (fun i o ho=>h2 i o (by simpa using ho)),by simpa using h3⟩⟩
def kill(S:List Nat):Nat→Ag→Ag
 |_,[]=>[]
 |i,r::m=>(if S.contains i then .dead else r)::kill S (i+1) m
theorem KO(S:List Nat):∀(m:Ag) (i:Nat),(kill S i m).length=m.length
 |[],_=>rfl
 |_::m,i=>by rw [kill,List.length_cons,List.length_cons,KO S m]
theorem Ua(S:List Nat):∀(m:Ag) (i b:Nat) (own:Bool) (x:Arr),(kill S i m)[b]?=some (.row own x)→S.contains (i+b)=false∧m[b]?=some (.row own x)
 |[],_,b,own,x,h=>by simp [kill] at h
 |r::m,i,0,own,x,h=>by
  simp only [kill,List.getElem?_cons_zero,Option.some.injEq] at h
  split at h
  ·cases h
  ·rename_i hc
   exact ⟨by rw [Nat.add_zero];exact Bool.eq_false_iff.2 hc,by rw [h];rfl⟩
 |r::m,i,b+1,own,x,h=>by
  rw [kill,List.getElem?_cons_succ] at h
  have:=Ua S m (i+1) b own x h
  rw [show i+(b+1)=i+1+b by omega,List.getElem?_cons_succ]
  exact this
def Xr(S:List Nat)(m0 m:Ag):Prop:=m.length=m0.length∧ ∀b,S.contains b=false→m[b]?=m0[b]?
theorem Xr.R{S:List Nat}{m0 m:Ag}(h:Xr S m0 m){ι:Emb}{w:World}(hR:R ι m w):R ι (kill S 0 m0) w:=by
 have get:∀ {b:Nat} {own:Bool} {x:Arr},(kill S 0 m0)[b]?=some (.row own x)→m[b]?=some (.row own x):=fun {b own x} hb=>by
  obtain ⟨h1,h2⟩:=Ua S m0 0 b own x hb
  rw [Nat.zero_add] at h1
  rw [h.2 b h1];exact h2
 exact ⟨fun b hb=>hR.dom b (by rw [h.1];rwa [KO] at hb),fun b l own x hb hm=>hR.rows b l own x hb (get hm),fun b b' l l' own own' x x' hne hb hb' hm hm' ho=>hR.inj b b' l l' own own' x x' hne hb hb' (get hm) (get hm') ho,fun c Φ hc=>⟨(hR.stay c Φ (hc.to _)).1,fun b l x hb hm=>(hR.stay c Φ (hc.to _)).2 b l x hb (get hm)⟩⟩
def SX (P : Program) (S : List Nat) (M0 : Ag) (ops : Array Oper) (K : St → Prop) : Nat → List Oper → St → Prop
  | _, [], s => K s
  | i, o :: l, s => (A8 o = true ∧ ∃ v m', CK P (AC s.t) s.m o.op = some (v, m') ∧ m'.length = s.m.length ∧ (∀ b, S.contains b = false → m'[b]? = s.m[b]?) ∧ SX P S M0 ops K (i + 1) l ⟨s.n, s.t, m'⟩) ∨
      (A8 o = false ∧ ∃ v, (AI P (AC s.t) (kill S 0 M0) o.op = some v ∨ (early ops i = true ∧ Ev P (.op o.op (AC s.t) M0) (.val v M0))) ∧ SX P S M0 ops K (i + 1) l ⟨s.n, CZ s.t o.dst v, s.m⟩)
structure XO(P:Program)(S:List Nat)(M0:Ag)(ops:Array Oper)(i:Nat)(l:List Oper)(s:St)(K:St→Prop):Prop where
 h:SX P S M0 ops K i l s
section
variable {S:List Nat} {i:Nat} {M0:Ag} {ops:Array Oper}
theorem eE{s:St}(h:K s):XO P S M0 ops i [] s K:=⟨h⟩
theorem Ed{op:Op}{v:AV}(h:AI P (AC T) (kill S 0 M0) op=some v)(hs:A8 ⟨some d,op,ty,pos,af,none⟩=false)(hk:XO P S M0 ops (i+1) l ⟨N,upd T d v,M⟩ K):XO P S M0 ops i (⟨some d,op,ty,pos,af,none⟩::l) ⟨N,T,M⟩ K:=
 ⟨.inr ⟨hs,v,.inl h,hk.h⟩⟩
theorem FL{op:Op}{v:AV}(he:early ops i=true)(h:AI P (AC T) M0 op=some v)(hs:A8 ⟨some d,op,ty,pos,af,none⟩=false)(hk:XO P S M0 ops (i+1) l ⟨N,upd T d v,M⟩ K):XO P S M0 ops i (⟨some d,op,ty,pos,af,none⟩::l) ⟨N,T,M⟩ K:=
 ⟨.inr ⟨hs,v,.inr ⟨he,.val h⟩,hk.h⟩⟩
theorem tK{op:Op}{v:AV}(he:early ops i=true)(h:Ev P (.op op (AC T) M0) (.val v (M0++[])))(hs:A8 ⟨some d,op,ty,pos,af,none⟩=false)(hk:XO P S M0 ops (i+1) l ⟨N,upd T d v,M⟩ K):XO P S M0 ops i (⟨some d,op,ty,pos,af,none⟩::l) ⟨N,T,M⟩ K:=
 ⟨.inr ⟨hs,v,.inr ⟨he,by rwa [List.append_nil] at h⟩,hk.h⟩⟩
theorem en{b:Nat}{r:Row}(hb:S.contains b=true)(hM:M.set b r=M'):∀c,S.contains c=false→M'[c]?=M[c]?:=fun c hc=>by
 have hne:b≠c:=fun e=>by rw [e,hc] at hb;cases hb
 rw [←hM,List.getElem?_set_ne hne]
theorem fG{t:TypeId}{a v:Operand}{b o:Nat}{x z:Arr}{c:Cell}(hb:S.contains b=true)(ha:AC T a= .c (.ptr b o))(hv:AC T v= .c c)(hm:M[b]?=some (.row true x))(h1:c.one=true)(hs:DN P t=some 1)(ho:o<x.size)(hz:x.set o c=some z)(hM:M.set b (.row true z)=M')
  (hk:XO P S M0 ops (i+1) l ⟨N,T,M'⟩ K):XO P S M0 ops i (⟨none,.store t a v,ty,pos,af,none⟩::l) ⟨N,T,M⟩ K:=
 ⟨.inl ⟨rfl,.c .any,M',by simp [CK,H4,ha,hv,hm,h1,hs,ho,hz,hM],by rw [←hM];simp,en hb hM,hk.h⟩⟩
theorem WX {t : TypeId} {a v : Operand} {b o : Nat} {x : AB 64} {w : BitVec 64} (hb : S.contains b = true) (ha : AC T a = .c (.ptr b o)) (hv : AC T v = .c (.val (BP w))) (hm : M[b]? = some (.row true (.a64 x))) (hs : DN P t = some 1) (ho : o < x.length) (hM : M.set b (.row true (.a64 (put x o w))) = M')
    (hk : XO P S M0 ops (i + 1) l ⟨N, T, M'⟩ K) : XO P S M0 ops i (⟨none, .store t a v, ty, pos, af, none⟩ :: l) ⟨N, T, M⟩ K := fG hb ha hv hm rfl hs ho (nY x o w) hM hk
theorem oF{t:TypeId}{a v:Operand}{b:Nat}{x y:Arr}(hb:S.contains b=true)(ha:AC T a= .c (.ptr b 0))(hv:AC T v= .agg y)(hm:M[b]?=some (.row true x))(h1:y.one=true){n:Nat}(hs:DN P t=some n)(hy:y.size=n)(hx:x.size=n)(hM:M.set b (.row true y)=M')
  (hk:XO P S M0 ops (i+1) l ⟨N,T,M'⟩ K) (hxm:x.isMap=false:=by rfl):XO P S M0 ops i (⟨none,.store t a v,ty,pos,af,none⟩::l) ⟨N,T,M⟩ K:=
 ⟨.inl ⟨rfl,.c .any,M',by simp [CK,H4,ha,hv,hm,h1,hs,hx,hy,hM,hxm],by rw [←hM];simp,en hb hM,hk.h⟩⟩
theorem SX.line{s0:St}:∀ {l:List Oper} {i:Nat} {s:St},SX P S M0 ops K i l s→s.n=s0.n→Xr S M0 s.m→ ∃(A:Nat→St) (V:Nat→AV) (E:Nat→Bool),A 0=s∧(∀c,c≤l.length→Xr S M0 (A c).m)∧
  (∀j o,l[j]?=some o→A8 o=false→E j=false→AI P (AC (A j).t) (kill S 0 M0) o.op=some (V j))∧
  (∀j o,l[j]?=some o→A8 o=false→E j=true→Ev P (.op o.op (AC (A j).t) M0) (.val (V j) M0))∧
  (∀j o,l[j]?=some o→A8 o=false→(E j=true→early ops (i+j)=true)∧A (j+1)=⟨s0.n,CZ (A j).t o.dst (V j),(A j).m⟩)∧
  (∀j o,l[j]?=some o→A8 o=true→ ∃v m',CK P (AC (A j).t) (A j).m o.op=some (v,m')∧m'.length=(A j).m.length∧A (j+1)=⟨s0.n,(A j).t,m'⟩)∧K (A l.length)
 |[],i,s,h,_,ha=>⟨fun _=>s,fun _=> .c .any,fun _=>false,rfl,fun _ _=>ha,fun j o h=>by simp at h,fun j o h=>by simp at h,fun j o h=>by simp at h,fun j o h=>by simp at h,h⟩
 |o::l,i,s,h,hn,ha=>by
  rcases h with ⟨hs,v,m',hv,hl,hag,hr⟩ | ⟨hs,v,hv,hr⟩
  ·obtain ⟨A,V,E,h0,hc,h1,h1',h1'',h2,h3⟩:=SX.line (s:=⟨s.n,s.t,m'⟩) hr hn ⟨by rw [hl];exact ha.1,fun b hb=>by rw [hag b hb];exact ha.2 b hb⟩
   refine ⟨fun i=>match i with | 0=>s | i+1=>A i,fun i=>match i with | 0=> .c .any | i+1=>V i,fun i=>match i with | 0=>false | i+1=>E i,rfl,fun c hcl=>?_,fun j o' h hs'=>?_,fun j o' h hs'=>?_,fun j o' h hs'=>?_,fun j o' h hs'=>?_,h3⟩
   ·cases c with
    |zero=>exact ha
    |succ c=>exact hc c (by simpa using hcl)
   ·cases j with
    |zero=>simp at h;subst h;rw [hs] at hs';cases hs'
    |succ j=>exact h1 j o' (by simpa using h) hs'
   ·cases j with
    |zero=>simp at h;subst h;rw [hs] at hs';cases hs'
    |succ j=>exact h1' j o' (by simpa using h) hs'
   ·cases j with
    |zero=>simp at h;subst h;rw [hs] at hs';cases hs'
    |succ j=>rw [show i+(j+1)=i+1+j by omega];exact h1'' j o' (by simpa using h) hs'
   ·cases j with
    |zero=>simp at h;subst h;exact ⟨v,m',hv,hl,by simp only;rw [h0,hn]⟩
    |succ j=>exact h2 j o' (by simpa using h) hs'
  ·obtain ⟨A,V,E,h0,hc,h1,h1',h1'',h2,h3⟩:=SX.line (s:=⟨s.n,CZ s.t o.dst v,s.m⟩) hr hn ha
   have hE:∃e:Bool,(e=false→AI P (AC s.t) (kill S 0 M0) o.op=some v)∧(e=true→early ops i=true∧Ev P (.op o.op (AC s.t) M0) (.val v M0)):=by
    rcases hv with hv | hv
    ·exact ⟨false,fun _=>hv,(fun h=>by cases h)⟩
    ·exact ⟨true,(fun h=>by cases h),fun _=>hv⟩
   obtain ⟨e,he1,he2⟩:=hE
   refine ⟨fun i=>match i with | 0=>s | i+1=>A i,fun i=>match i with | 0=>v | i+1=>V i,fun i=>match i with | 0=>e | i+1=>E i,rfl,fun c hcl=>?_,fun j o' h hs'=>?_,fun j o' h hs'=>?_,fun j o' h hs'=>?_,fun j o' h hs'=>?_,h3⟩
   ·cases c with
    |zero=>exact ha
    |succ c=>exact hc c (by simpa using hcl)
   ·cases j with
    |zero=>simp at h;subst h;exact he1
    |succ j=>exact h1 j o' (by simpa using h) hs'
   ·cases j with
    |zero=>simp at h;subst h;exact fun h=>(he2 h).2
    |succ j=>exact h1' j o' (by simpa using h) hs'
   ·cases j with
    |zero=>simp at h;subst h;exact ⟨fun h=>(he2 h).1,by simp only;rw [h0,hn]⟩
    |succ j=>rw [show i+(j+1)=i+1+j by omega];exact h1'' j o' (by simpa using h) hs'
   ·cases j with
    |zero=>simp at h;subst h;rw [hs] at hs';cases hs'
    |succ j=>exact h2 j o' (by simpa using h) hs'
end
theorem Oz{id:Nat}{l:List Oper}{s:St}{Φ:Ex→St→Prop}(S:List Nat)(hm:P.follows .mixedOrders=true)(hok:Region.okStores l.toArray s.n=true)(h:XO P S s.m l.toArray 0 l s (Φ .normal)):WC P k (.region id l.toArray true) s Φ:=by
 obtain ⟨A,V,E,h0,hc,h1,h1',h1'',h2,h3⟩:=SX.line (s0:=s) h.h rfl ⟨rfl,fun _ _=>rfl⟩
 exact ⟨⟨.normal,_,Ev.stores2 A V E hm hok h0 (fun i o ho hs he=>⟨_,fun c hcl ι w hR=>(hc c (by simpa using hcl)).R hR,h1 i o (by simpa using ho) hs he⟩) (fun i o ho=>h1' i o (by simpa using ho)) (fun i o ho=>by have:=h1'' i o (by simpa using ho);rw [Nat.zero_add] at this;exact this) (fun i o ho=>h2 i o (by simpa using ho)),by simpa using h3⟩⟩
theorem lH{x:Operand}{v:AV}(h:AC T x=v):AI P (AC T) M (.move x)=some v:=by rw [←h];rfl
theorem Ah{x:Operand}{v:Cell}(h:AC T x= .c v):AI P (AC T) M (.move x)=some ((.c v)):=
 lH h
theorem I0{x:Operand}{v:List AV}(h:AC T x= .tup v):AI P (AC T) M (.move x)=some ((.tup v)):=
 lH h
theorem mi{x:Operand}{v:AV}(h:AC T x=v):AI P (AC T) M (.assign x)=some (v):=
 (by rw [←h];rfl)
theorem Ae{x:Operand}{v:Cell}(h:AC T x= .c v):AI P (AC T) M (.assign x)=some ((.c v)):=
 mi h
theorem tT{op:BinOp}{t:TypeId}{x y:Operand}{a b c:Value}(h:binOp op t a b=(pure c:Sem Value))(hg:eqGuard op t x y a b=(pure ():Sem Unit)):yi op t x y a b=(pure c:Sem Value):=by
 unfold yi;rw [hg,h];rfl
theorem jM{op:BinOp}{t:TypeId}{x y:Operand}{a b c:Value}(hb:∀p,a≠ .bool p)(h:yi op t x y a b=(pure c:Sem Value)):NC P op t x y (.c (.val a)) (.c (.val b))=some (.c (.val c)):=by
 unfold NC
 simp only
 split
 ·rename_i p q;exact absurd rfl (hb p)
 ·rename_i p q;exact absurd rfl (hb p)
 ·rw [h];rfl
theorem Bs{op:BinOp}{t t':TypeId}{x y:Operand}{ka kb:IntKind}{a b:Int}{c:Value}(hx:AC T x= .c (.val (.int ka a)))(hy:AC T y= .c (.val (.int kb b)))(h:binOp op t (.int ka a) (.int kb b)=(pure c:Sem Value)):AI P (AC T) M (.binOp op t x y t')=some ((.c (.val c))):=
 (by
  show NC P op t x y (AC T x) (AC T y)=_
  rw [hx,hy]
  refine jM (fun p h=>by cases h) (tT h ?_)
  unfold eqGuard
  cases op<;>rfl)
theorem vZ{t n el:Nat}{x i:Operand}{b o sz:Nat}{kd:IntKind}{j:Nat}(hx:AC T x= .c (.ptr b o))(hi:AC T i= .c (.val (.int kd (j:Int))))(hu:P.underlying t=some (.array n el))(hs:DN P el=some sz)(h0:j<n):AI P (AC T) M (.indexAddr t x i)=some ((.c (.ptr b (o+j*sz)))):=
 (by
  show G7 P t (AC T x) (AC T i)=_
  rw [hx,hi]
  have h1:(0:Int)≤(j:Int)∧(j:Int)<(n:Int):=by omega
  simp only [G7,hu,FD,hs,h1,and_self,if_true,Int.toNat_natCast])
theorem AP{t n el:Nat}{x i:Operand}{b:Nat}{kd:IntKind}{j:Nat}(hx:AC T x= .c (.ptr b 0))(hi:AC T i= .c (.val (.int kd (j:Int))))(hu:P.underlying t=some (.array n el))(hs:DN P el=some 1)(h0:j<n):AI P (AC T) M (.indexAddr t x i)=some ((.c (.ptr b j))):=
 (vZ hx hi hu hs h0).trans (by rw [Nat.zero_add,Nat.mul_one])
theorem RO{t el:Nat}{x i:Operand}{b o len cap sz:Nat}{kd:IntKind}{j:Nat}(hx:AC T x= .c (.sl b o len cap sz))(hi:AC T i= .c (.val (.int kd (j:Int))))(hu:P.underlying t=some (.slice el))(hs:DN P el=some sz)(h0:j<len):AI P (AC T) M (.indexAddr t x i)=some ((.c (.ptr b (o+j*sz)))):=
 (by
  show G7 P t (AC T x) (AC T i)=_
  rw [hx,hi]
  have h1:(0:Int)≤(j:Int)∧(j:Int)<(len:Int):=by omega
  simp only [G7,hu,FD,hs,h1,and_self,if_true,Int.toNat_natCast])
theorem Ff{t el:Nat}{x i:Operand}{b len cap:Nat}{kd:IntKind}{j:Nat}(hx:AC T x= .c (.sl b 0 len cap 1))(hi:AC T i= .c (.val (.int kd (j:Int))))(hu:P.underlying t=some (.slice el))(hs:DN P el=some 1)(h0:j<len):AI P (AC T) M (.indexAddr t x i)=some ((.c (.ptr b j))):=
 (RO hx hi hu hs h0).trans (by rw [Nat.zero_add,Nat.mul_one])
theorem YX{t el:Nat}{x i:Operand}{b o len cap:Nat}{kd:IntKind}{j:Nat}(hx:AC T x= .c (.sl b o len cap 1))(hi:AC T i= .c (.val (.int kd (j:Int))))(hu:P.underlying t=some (.slice el))(hs:DN P el=some 1)(h0:j<len):AI P (AC T) M (.indexAddr t x i)=some ((.c (.ptr b (o+j)))):=
 (RO hx hi hu hs h0).trans (by rw [Nat.mul_one])
theorem Bj{t:TypeId}{a:Operand}{b o:Nat}{own:Bool}{x:Arr}{c:Cell}(ha:AC T a= .c (.ptr b o))(hm:M[b]?=some (.row own x))(hr:A5 P t=some false)(ho:o<x.size)(hg:x.get o=c):AI P (AC T) M (.load t a)=some ((.c c)):=
 (by
  simp only [AI,ha,hm,Eu,hr,ho,if_true,hg])
theorem Xy{t:TypeId}{a:Operand}{b o:Nat}{own:Bool}{x:AB 8}(ha:AC T a= .c (.ptr b o))(hm:M[b]?=some (.row own (.a8 x)))(hr:A5 P t=some false)(ho:o<x.length):AI P (AC T) M (.load t a)=some ((.c (.val (U8 (nth x o))))):=
 Bj ha hm hr ho rfl
theorem Un{t:TypeId}{a:Operand}{b o:Nat}{own:Bool}{x:AB 32}(ha:AC T a= .c (.ptr b o))(hm:M[b]?=some (.row own (.a32 x)))(hr:A5 P t=some false)(ho:o<x.length):AI P (AC T) M (.load t a)=some ((.c (.val (Es (nth x o))))):=
 Bj ha hm hr ho rfl
theorem IE{t:TypeId}{a:Operand}{b o:Nat}{own:Bool}{x:AB 64}(ha:AC T a= .c (.ptr b o))(hm:M[b]?=some (.row own (.a64 x)))(hr:A5 P t=some false)(ho:o<x.length):AI P (AC T) M (.load t a)=some ((.c (.val (BP (nth x o))))):=
 Bj ha hm hr ho rfl
theorem Iz{t:TypeId}{a:Operand}{b o:Nat}{own:Bool}{x:List (Int)}(ha:AC T a= .c (.ptr b o))(hm:M[b]?=some (.row own (.ai x)))(hr:A5 P t=some false)(ho:o<x.length):AI P (AC T) M (.load t a)=some ((.c (.val (.int .i64 (AX x o))))):=
 Bj ha hm hr ho rfl
theorem Bi{t:TypeId}{a:Operand}{b n:Nat}{own:Bool}{x:Arr}(ha:AC T a= .c (.ptr b 0))(hm:M[b]?=some (.row own x))(hr:A5 P t=some true)(hs:DN P t=some n)(hx:x.size=n)(h0:0<n):AI P (AC T) M (.load t a)=some ((.agg x)):=
 (by
  simp [AI,ha,hm,Eu,hr,hs,hx,h0,F1])
theorem Oh{t:TypeId}{a v:Operand}{b o:Nat}{x z:Arr}{c:Cell}(ha:AC T a= .c (.ptr b o))(hv:AC T v= .c c)(hm:M[b]?=some (.row true x))(h1:c.one=true)(hs:DN P t=some 1)(ho:o<x.size)(hz:x.set o c=some z)(hM:M.set b (.row true z)=M')
  (hk:WO P k ops l ⟨N,T,M'⟩ K):WO P k ops (⟨none,.store t a v,ty,pos,af,none⟩::l) ⟨N,T,M⟩ K:=
 kD (v:= .c .any) (by
  simp [CK,H4,ha,hv,hm,h1,hs,ho,hz,hM]) hk
theorem B0{t:TypeId}{a v:Operand}{b:Nat}{x y:Arr}(ha:AC T a= .c (.ptr b 0))(hv:AC T v= .agg y)(hm:M[b]?=some (.row true x))(h1:y.one=true){n:Nat}(hs:DN P t=some n)(hy:y.size=n)(hx:x.size=n)(hM:M.set b (.row true y)=M')
  (hk:WO P k ops l ⟨N,T,M'⟩ K) (hxm:x.isMap=false:=by rfl):WO P k ops (⟨none,.store t a v,ty,pos,af,none⟩::l) ⟨N,T,M⟩ K:=
 kD (v:= .c .any) (by
  simp [CK,H4,ha,hv,hm,h1,hs,hx,hy,hM,hxm]) hk
theorem aO {t : TypeId} {a v : Operand} {b o : Nat} {x : AB 8} {w : BitVec 8} (ha : AC T a = .c (.ptr b o)) (hv : AC T v = .c (.val (U8 w))) (hm : M[b]? = some (.row true (.a8 x))) (hs : DN P t = some 1) (ho : o < x.length) (hM : M.set b (.row true (.a8 (put x o w))) = M')
    (hk : WO P k ops l ⟨N, T, M'⟩ K) : WO P k ops (⟨none, .store t a v, ty, pos, af, none⟩ :: l) ⟨N, T, M⟩ K := Oh ha hv hm rfl hs ho (sc x o w) hM hk
theorem LP {t : TypeId} {a v : Operand} {b o : Nat} {x : AB 32} {w : BitVec 32} (ha : AC T a = .c (.ptr b o)) (hv : AC T v = .c (.val (Es w))) (hm : M[b]? = some (.row true (.a32 x))) (hs : DN P t = some 1) (ho : o < x.length) (hM : M.set b (.row true (.a32 (put x o w))) = M')
    (hk : WO P k ops l ⟨N, T, M'⟩ K) : WO P k ops (⟨none, .store t a v, ty, pos, af, none⟩ :: l) ⟨N, T, M⟩ K := Oh ha hv hm rfl hs ho (rU x o w) hM hk
theorem Wk {t : TypeId} {a v : Operand} {b o : Nat} {x : AB 64} {w : BitVec 64} (ha : AC T a = .c (.ptr b o)) (hv : AC T v = .c (.val (BP w))) (hm : M[b]? = some (.row true (.a64 x))) (hs : DN P t = some 1) (ho : o < x.length) (hM : M.set b (.row true (.a64 (put x o w))) = M')
    (hk : WO P k ops l ⟨N, T, M'⟩ K) : WO P k ops (⟨none, .store t a v, ty, pos, af, none⟩ :: l) ⟨N, T, M⟩ K := Oh ha hv hm rfl hs ho (nY x o w) hM hk
theorem kA {t : TypeId} {a v : Operand} {b o : Nat} {x : List (Int)} {w : Int} (ha : AC T a = .c (.ptr b o)) (hv : AC T v = .c (.val (.int .i64 w))) (hm : M[b]? = some (.row true (.ai x))) (hs : DN P t = some 1) (ho : o < x.length) (hM : M.set b (.row true (.ai (Vg x o w))) = M')
    (hk : WO P k ops l ⟨N, T, M'⟩ K) : WO P k ops (⟨none, .store t a v, ty, pos, af, none⟩ :: l) ⟨N, T, M⟩ K := Oh ha hv hm rfl hs ho (ud x o w) hM hk
theorem BR{t:TypeId}{x:Arr}{n:Nat}(hz:∀m,Cf P m t=some (.c (.ptr m.length 0),m++[.row true x]))(hn:M.length=n):CK P (AC T) M (.alloc t)=some (.c (.ptr n 0),M++[.row true x]):=by subst hn;exact hz M
theorem WZ{t:TypeId}{v:Operand}{x:Arr}{n:Nat}(hv:Ro (AC T v)=some x)(hn:M.length=n):CK P (AC T) M (.box t v)=some (.c (.ptr n 0),M++[.row true x]):=by
 show fU M (AC T v)=_
 subst hn
 simp only [fU,hv,Option.map_some]
theorem HA{s t:TypeId}{x:Operand}{k1 k2:IntKind}{a b:Int}{ds:TypeDesc}(hx:AC T x= .c (.val (.int k1 a)))(hs:P.underlying s=some ds)(ht:P.underlying t=some (.int k2))(h:k2.wrap a=b):AI P (AC T) M (.convert s t x)=some (.c (.val (.int k2 b))):=by
 show YT P s t (AC T x)=_
 rw [hx]
 simp only [YT,hs,ht,h]
theorem C5{x:Operand}{i:Nat}{vs:List AV}{v:AV}(hx:AC T x= .tup vs)(hi:vs[i]?=some v):AI P (AC T) M (.extract x i)=some (v):=
 (by
  simp only [AI,hx,hi])
end
section
variable {P:Program} {k:Nat} {s s1:St} {a b:Code} {Φ:Ex→St→Prop}
theorem Ac{id:Nat}{l:List Oper}(h:WO P k l.toArray l s (Φ .normal)):WC P k (.region id l.toArray false) s Φ:=let ⟨r,h1,h2⟩:=h.h;⟨⟨.normal,r,Ev.region h1,h2⟩⟩
def zi(P:Program)(k:Nat)(b:Code)(Φ:Ex→St→Prop):Ex→St→Prop
 |.normal,s=>WC P k b s Φ
 |e,s=>Φ e s
theorem rr(h:WC P k a s (zi P k b Φ)):WC P k (.seq a b) s Φ:=by
 obtain ⟨e,r,h1,h2⟩:=h.h
 cases e with
 |normal=>obtain ⟨e',r',h3,h4⟩:=h2.h;exact ⟨⟨e',r',Ev.seq h1 h3,h4⟩⟩
 |exit id=>exact ⟨⟨_,r,Ev.seqx h1 (by simp),h2⟩⟩
 |ret=>exact ⟨⟨_,r,Ev.seqx h1 (by simp),h2⟩⟩
theorem ng(h:Φ .normal s):WC P k .skip s Φ:=⟨⟨_,_,Ev.cskip,h⟩⟩
theorem fh{l:Nat}(h:Φ .normal s):WC P k (.label l) s Φ:=⟨⟨_,_,Ev.label,h⟩⟩
theorem tu{id:Nat}(h:Φ (.exit id) s):WC P k (.exit id) s Φ:=⟨⟨_,_,Ev.exit,h⟩⟩
theorem wj(h:Φ .ret s):WC P k .ret s Φ:=⟨⟨_,_,Ev.ret,h⟩⟩
theorem gC(h:WC P k a s Φ):WC P k (.scope a) s Φ:=let ⟨e,r,h1,h2⟩:=h.h;⟨⟨e,r,Ev.scope h1,h2⟩⟩
def lh(id:Nat)(Φ:Ex→St→Prop):Ex→St→Prop
 |.exit i,s=>if i=id then Φ .normal s else Φ (.exit i) s
 |e,s=>Φ e s
theorem fo{id:Nat}(h:WC P k a s (lh id Φ)):WC P k (.block id a) s Φ:=by
 obtain ⟨e,r,h1,h2⟩:=h.h
 refine ⟨⟨_,r,Ev.block h1,?_⟩⟩
 cases e with
 |normal=>exact h2
 |ret=>exact h2
 |exit i=>
  simp only [lh,Ex.block] at h2 ⊢
  split
  ·rename_i e;rw [if_pos e] at h2;exact h2
  ·rename_i e;rw [if_neg e] at h2;exact h2
theorem EH{c:Operand}{t:Bool}(hc:AC s.t c= .c (.val (.bool t)))(ht:t=true)(h:WC P k a s Φ):WC P k (.cond c a b) s Φ:=let ⟨e,r,h1,h2⟩:=h.h;⟨⟨e,r,Ev.cond true (by rw [hc,ht]) h1,h2⟩⟩
theorem Bn{c:Operand}{t:Bool}(hc:AC s.t c= .c (.val (.bool t)))(ht:t=false)(h:WC P k b s Φ):WC P k (.cond c a b) s Φ:=let ⟨e,r,h1,h2⟩:=h.h;⟨⟨e,r,Ev.cond false (by rw [hc,ht]) h1,h2⟩⟩
theorem TY(keep:List Nat)(hc:clean k keep s=some s1)(h:WC P k a s1 Φ):WC P k a s Φ:=let ⟨e,r,h1,h2⟩:=h.h;⟨⟨e,r,Ev.clean keep hc h1,h2⟩⟩
def VC(k:Nat)(keep:List Nat){σ:Type}(I:σ→St)(y:σ):Ex→St→Prop
 |.normal,s=> ∃x,clean k keep s=some (I x)∧x=y
 |_,_=>False
def xK(Φ:Ex→St→Prop):Ex→St→Prop
 |.normal,_=>False
 |e,s=>Φ e s
theorem cE(keep:List Nat){σ:Type}(I:σ→St)(f:Nat→σ)(n:Nat){c:Code}{s0:St}(h0:s0=I (f 0))(hstep:∀j,j<n→WC P k c (I (f j)) (VC k keep I (f (j+1))))(hend:WC P k c (I (f n)) (xK Φ)):WC P k (.loop c) s0 Φ:=by
 subst h0
 have key:∀d j,j+d=n→WC P k (.loop c) (I (f j)) Φ:=by
  intro d
  induction d with
  |zero=>
   intro j hj
   obtain rfl:j=n:=by omega
   obtain ⟨e,r,h1,h2⟩:=hend.h
   cases e with
   |normal=>exact h2.elim
   |exit id=>exact ⟨⟨_,r,Ev.loopx h1 (by simp),h2⟩⟩
   |ret=>exact ⟨⟨_,r,Ev.loopx h1 (by simp),h2⟩⟩
  |succ d ih=>
   intro j hj
   obtain ⟨e,r,h1,h2⟩:=(hstep j O_).h
   cases e with
   |normal=>
    obtain ⟨x,h3,rfl⟩:=h2
    obtain ⟨e',r',h4,h5⟩:=(ih (j+1) O_).h
    exact ⟨⟨e',r',Ev.loop h1 (Ev.clean keep h3 h4),h5⟩⟩
   |exit id=>exact h2.elim
   |ret=>exact h2.elim
 exact key n 0 O_
theorem AT(keep:List Nat){σ:Type}(I:σ→St)(f:Nat→σ)(n:Nat){c:Code}{s0:St}(h0:clean k keep s0=some (I (f 0)))(hstep:∀j,j<n→WC P k c (I (f j)) (VC k keep I (f (j+1))))(hend:WC P k c (I (f n)) (xK Φ)):WC P k (.loop c) s0 Φ:=
 TY keep h0 (cE keep I f n rfl hstep hend)
theorem Id(keep:List Nat){σ:Type}(I:σ→St)(y:σ){c:Operand}{t:Bool}(hc:AC s.t c= .c (.val (.bool t)))(ha:t=true→WC P k a s (VC k keep I y))(hb:t=false→WC P k b s (VC k keep I y))(h:Φ .normal (I y)):WC P k (.cond c a b) s Φ:=by
 cases t with
 |true=>
  obtain ⟨e,r,h1,h2⟩:=(ha rfl).h
  cases e with
  |normal=>obtain ⟨x,h3,rfl⟩:=h2;exact ⟨⟨_,_,Ev.tidy keep (Ev.cond true hc h1) h3,h⟩⟩
  |exit id=>exact h2.elim
  |ret=>exact h2.elim
 |false=>
  obtain ⟨e,r,h1,h2⟩:=(hb rfl).h
  cases e with
  |normal=>obtain ⟨x,h3,rfl⟩:=h2;exact ⟨⟨_,_,Ev.tidy keep (Ev.cond false hc h1) h3,h⟩⟩
  |exit id=>exact h2.elim
  |ret=>exact h2.elim
def Vt(P:Program)(n:Nat)(rs:List ResultVar)(v:AV)(m':Ag):Ex→St→Prop
 |.exit _,_=>False
 |_,s=> ∃vs ids,F9 P s rs=some vs∧canon n [qC vs] s.m=some ([v],m',ids)
theorem AJ{f:FuncId}{fn:Func}{c:Code}{args:List AV}{m m':Ag}{v:AV}{N n:Nat}(hf:P.funcs[f]?=some fn)(hb:fn.body=some c)(hN:fn.ntmps=N)(hn:Nat.ble args.length N=true)(hm:m.length=n)
  (h:WC P n c ⟨N,ox args,m⟩ (Vt P n fn.results.toList v m')):Ev P (.call f args m) (.val v m'):=by
 subst hm;subst hN
 obtain ⟨e,r,h1,h2⟩:=h.h
 cases e with
 |exit id=>exact h2.elim
 |normal=>obtain ⟨vs,ids,h3,h4⟩:=h2;exact Ev.call hf hb (Nat.le_of_ble_eq_true hn) h1 (.inl rfl) h3 h4
 |ret=>obtain ⟨vs,ids,h3,h4⟩:=h2;exact Ev.call hf hb (Nat.le_of_ble_eq_true hn) h1 (.inr rfl) h3 h4
end
theorem Iy{P:Program}{s:St}{a:Tmp}{ty:TypeId}{b n:Nat}{own:Bool}{x:Arr}(ha:s.t a= .c (.ptr b 0))(hm:s.m[b]?=some (.row own x))(hr:A5 P ty=some true)(hs:DN P ty=some n)(hx:x.size=n)(h0:0<n):Gk P s (.cell a ty)=some (.agg x):=by
 simp [Gk,ha,hm,Eu,hr,hs,hx,h0,F1]
theorem Dt{P:Program}{s:St}{t:Tmp}{c:Cell}(h:s.t t= .c c):Gk P s (.tmp t)=some (.c c):=by simp [Gk,h]
def iy(n:Nat)(v:AV)(m:Ag):Option (List AV×Ag):=(canon n [v] m).map fun r=>(r.1,r.2.1)
theorem Of{n:Nat}{v v':AV}{m m':Ag}(h:iy n v m=some ([v'],m')):∃ids,canon n [v] m=some ([v'],m',ids):=by
 unfold iy at h
 obtain ⟨⟨a,b,c⟩,h1,h2⟩:=Option.map_eq_some_iff.1 h
 simp only [Prod.mk.injEq] at h2
 obtain ⟨rfl,rfl⟩:=h2
 exact ⟨c,h1⟩
theorem fS{P:Program}{n:Nat}{s:St}{r1:ResultVar}{v1 v:AV}{m':Ag}(h1:Gk P s r1=some v1)(hc:iy n v1 s.m=some ([v],m')):Vt P n [r1] v m' .ret s:=let ⟨ids,h⟩:=Of hc;⟨[v1],ids,by simp [F9,h1],h⟩
theorem qB{P:Program}{n:Nat}{s:St}{r1 r2:ResultVar}{v1 v2 v:AV}{m':Ag}(h1:Gk P s r1=some v1)(h2:Gk P s r2=some v2)(hc:iy n (.tup [v1,v2]) s.m=some ([v],m')):Vt P n [r1,r2] v m' .ret s:=let ⟨ids,h⟩:=Of hc;⟨[v1,v2],ids,by simp [F9,h1,h2],h⟩
theorem k_3{P:Program}{n:Nat}{s:St}{r1 r2 r3:ResultVar}{v1 v2 v3 v:AV}{m':Ag}(h1:Gk P s r1=some v1)(h2:Gk P s r2=some v2)(h3:Gk P s r3=some v3)(hc:iy n (.tup [v1,v2,v3]) s.m=some ([v],m')):Vt P n [r1,r2,r3] v m' .ret s:=let ⟨ids,h⟩:=Of hc;⟨[v1,v2,v3],ids,by simp [F9,h1,h2,h3],h⟩
section
variable {t:TypeId}
theorem zW{a b:Int}(h: -9223372036854775808≤a+b∧a+b≤9223372036854775807):binOp .add t (.int .i64 a) (.int .i64 b)=(pure (.int .i64 (a+b)):Sem Value):=by
 show (pure (Value.int .i64 (IntKind.i64.wrap (a+b))):Sem Value)=_
 rw [IntWalk.i64_in _ O_]
theorem wT{a b:Int}(h: -9223372036854775808≤a-b∧a-b≤9223372036854775807):binOp .sub t (.int .i64 a) (.int .i64 b)=(pure (.int .i64 (a-b)):Sem Value):=by
 show (pure (Value.int .i64 (IntKind.i64.wrap (a-b))):Sem Value)=_
 rw [IntWalk.i64_in _ O_]
theorem zT{a b:Int}(h: -9223372036854775808≤a*b∧a*b≤9223372036854775807):binOp .mul t (.int .i64 a) (.int .i64 b)=(pure (.int .i64 (a*b)):Sem Value):=by
 show (pure (Value.int .i64 (IntKind.i64.wrap (a*b))):Sem Value)=_
 rw [IntWalk.i64_in _ O_]
theorem yY{a b:Int}:binOp .lss t (.int .i64 a) (.int .i64 b)=(pure (.bool (decide (a<b))):Sem Value):=rfl
theorem zr{a b:Int}:binOp .leq t (.int .i64 a) (.int .i64 b)=(pure (.bool (decide (a≤b))):Sem Value):=rfl
theorem yP{a b:Int}:binOp .gtr t (.int .i64 a) (.int .i64 b)=(pure (.bool (decide (b<a))):Sem Value):=rfl
theorem yR{a b:Int}:binOp .geq t (.int .i64 a) (.int .i64 b)=(pure (.bool (decide (b≤a))):Sem Value):=rfl
theorem we{a b:Int}:binOp .eql t (.int .i64 a) (.int .i64 b)=(pure (.bool (a==b)):Sem Value):=rfl
theorem yG{a b:Int}:binOp .neq t (.int .i64 a) (.int .i64 b)=(pure (.bool (a !=b)):Sem Value):=rfl
theorem addN{a b:Nat}(h:a+b≤9223372036854775807):binOp .add t (.int .i64 (a:Int)) (.int .i64 (b:Int))=(pure (.int .i64 ((a+b:Nat):Int)):Sem Value):=zW O_
theorem zo{a b:Nat}(h:b≤a)(h2:a≤9223372036854775807):binOp .sub t (.int .i64 (a:Int)) (.int .i64 (b:Int))=(pure (.int .i64 ((a-b:Nat):Int)):Sem Value):=by
 rw [wT O_];congr 2;omega
theorem mulN{a b:Nat}(h:a*b≤9223372036854775807):binOp .mul t (.int .i64 (a:Int)) (.int .i64 (b:Int))=(pure (.int .i64 ((a*b:Nat):Int)):Sem Value):=by
 rw [zT (by rw [←Int.natCast_mul];omega)];rfl
theorem zO{a b:Nat}(h:0<b)(h2:a≤9223372036854775807):binOp .quo t (.int .i64 (a:Int)) (.int .i64 (b:Int))=(pure (.int .i64 ((a/b:Nat):Int)):Sem Value):=by
 rw [binOp_quo,Op.intDiv,if_neg O_]
 show (pure (Value.int .i64 (IntKind.i64.wrap ((a/b:Nat):Int))):Sem Value)=_
 have hle:=Nat.div_le_self a b
 generalize a/b=q at*
 rw [IntWalk.i64_in _ O_]
theorem zm{a b:Nat}(h:0<b)(_h2:a≤9223372036854775807):binOp .rem t (.int .i64 (a:Int)) (.int .i64 (b:Int))=(pure (.int .i64 ((a%b:Nat):Int)):Sem Value):=by
 rw [binOp_rem,Op.intDiv,if_neg O_]
 rfl
theorem yq{a b:Nat}:binOp .lss t (.int .i64 (a:Int)) (.int .i64 (b:Int))=(pure (.bool (decide (a<b))):Sem Value):=by
 rw [yY];congr 2;exact decide_eq_decide.2 O_
theorem zy{a b:Nat}:binOp .leq t (.int .i64 (a:Int)) (.int .i64 (b:Int))=(pure (.bool (decide (a≤b))):Sem Value):=by
 rw [zr];congr 2;exact decide_eq_decide.2 O_
theorem yu{a b:Nat}:binOp .gtr t (.int .i64 (a:Int)) (.int .i64 (b:Int))=(pure (.bool (decide (b<a))):Sem Value):=by
 rw [yP];congr 2;exact decide_eq_decide.2 O_
theorem zJ{a b:Nat}:binOp .geq t (.int .i64 (a:Int)) (.int .i64 (b:Int))=(pure (.bool (decide (b≤a))):Sem Value):=by
 rw [yR];congr 2;exact decide_eq_decide.2 O_
theorem yz{a b:Nat}:binOp .eql t (.int .i64 (a:Int)) (.int .i64 (b:Int))=(pure (.bool (decide (a=b))):Sem Value):=by
 rw [we];congr 2;rw [Bool.eq_iff_iff];simp;omega
theorem zB{a b:Nat}:binOp .neq t (.int .i64 (a:Int)) (.int .i64 (b:Int))=(pure (.bool (!decide (a=b))):Sem Value):=by
 rw [yG];congr 2;rw [Bool.eq_iff_iff];simp;omega
theorem vR{x:BitVec 64}{kd:IntKind}{n:Nat}:binOp .shl t (BP x) (.int kd (n:Int))=(pure (BP (x<<<n)):Sem Value):=by rw [rI x kd n O_,Int.toNat_natCast]
theorem vL{x:BitVec 64}{kd:IntKind}{n:Nat}:binOp .shr t (BP x) (.int kd (n:Int))=(pure (BP (x>>>n)):Sem Value):=by rw [rN x kd n O_,Int.toNat_natCast]
theorem vV{x:BitVec 32}{kd:IntKind}{n:Nat}:binOp .shr t (Es x) (.int kd (n:Int))=(pure (Es (x>>>n)):Sem Value):=by rw [rR x kd n O_,Int.toNat_natCast]
theorem xd{x:BitVec 8}{kd:IntKind}{n:Nat}:binOp .shl t (U8 x) (.int kd (n:Int))=(pure (U8 (x<<<n)):Sem Value):=by rw [zt x kd n O_,Int.toNat_natCast]
theorem wU{x:BitVec 8}{kd:IntKind}{n:Nat}:binOp .shr t (U8 x) (.int kd (n:Int))=(pure (U8 (x>>>n)):Sem Value):=by rw [AAA x kd n O_,Int.toNat_natCast]
theorem sP(x:BitVec 8):IntKind.u64.wrap (tn x)=tn (x.setWidth 64):=by rw [Eh];unfold tn;rw [EC]
theorem te(x:BitVec 64):IntKind.u32.wrap (tn x)=tn (x.setWidth 32):=by rw [Ga];unfold tn;rw [EC]
theorem mZ(x:BitVec 64):IntKind.u8.wrap (tn x)=tn (x.setWidth 8):=by rw [MF];unfold tn;rw [EC]
theorem sA(x:BitVec 32):IntKind.u8.wrap (tn x)=tn (x.setWidth 8):=by rw [MF];unfold tn;rw [EC]
theorem wD(n:Nat):IntKind.u64.wrap (n:Int)=tn (BitVec.ofNat 64 n):=by rw [Eh,BitVec.ofInt_natCast];rfl
theorem yV(n:Nat):IntKind.u32.wrap (n:Int)=tn (BitVec.ofNat 32 n):=by rw [Ga,BitVec.ofInt_natCast];rfl
theorem zw(n:Nat):IntKind.u8.wrap (n:Int)=tn (BitVec.ofNat 8 n):=by rw [MF,BitVec.ofInt_natCast];rfl
theorem zM(x:BitVec 8):IntKind.i64.wrap (tn x)=((x.toNat:Nat):Int):=IntWalk.i64_in _ (by unfold tn;have:=x.isLt;omega)
end
section
variable {P:Program} {k N:Nat} {ops:Array Oper} {d:Nat} {ty:TypeId} {pos:String} {af:Array Edge} {l:List Oper} {T:Nat→AV} {M:Ag} {K:St→Prop} {t t':TypeId} {x y:Operand}
theorem TB{a b:BitVec 64}(hx:AC T x= .c (.val (BP a)))(hy:AC T y= .c (.val (BP b))):AI P (AC T) M (.binOp .add t x y t')=some ((.c (.val (BP (a+b))))):=
 Bs hx hy (add64 a b)
theorem YB{a b:BitVec 64}(hx:AC T x= .c (.val (BP a)))(hy:AC T y= .c (.val (BP b))):AI P (AC T) M (.binOp .sub t x y t')=some ((.c (.val (BP (a-b))))):=
 Bs hx hy (sub64 a b)
theorem FE{a b:BitVec 64}(hx:AC T x= .c (.val (BP a)))(hy:AC T y= .c (.val (BP b))):AI P (AC T) M (.binOp .and t x y t')=some ((.c (.val (BP (a&&&b))))):=
 Bs hx hy (xo a b)
theorem VD{a b:BitVec 64}(hx:AC T x= .c (.val (BP a)))(hy:AC T y= .c (.val (BP b))):AI P (AC T) M (.binOp .or t x y t')=some ((.c (.val (BP (a ||| b))))):=
 Bs hx hy (yv a b)
theorem gD{a b:BitVec 64}(hx:AC T x= .c (.val (BP a)))(hy:AC T y= .c (.val (BP b))):AI P (AC T) M (.binOp .xor t x y t')=some ((.c (.val (BP (a^^^b))))):=
 Bs hx hy (xe a b)
theorem GX{a b:BitVec 64}(hx:AC T x= .c (.val (BP a)))(hy:AC T y= .c (.val (BP b))):AI P (AC T) M (.binOp .mul t x y t')=some ((.c (.val (BP (a*b))))):=
 Bs hx hy (wq a b)
theorem RC{a b:BitVec 32}(hx:AC T x= .c (.val (Es a)))(hy:AC T y= .c (.val (Es b))):AI P (AC T) M (.binOp .add t x y t')=some ((.c (.val (Es (a+b))))):=
 Bs hx hy (xW a b)
theorem Qa{a b:BitVec 32}(hx:AC T x= .c (.val (Es a)))(hy:AC T y= .c (.val (Es b))):AI P (AC T) M (.binOp .and t x y t')=some ((.c (.val (Es (a&&&b))))):=
 Bs hx hy (vz a b)
theorem uW{a b:BitVec 32}(hx:AC T x= .c (.val (Es a)))(hy:AC T y= .c (.val (Es b))):AI P (AC T) M (.binOp .or t x y t')=some ((.c (.val (Es (a ||| b))))):=
 Bs hx hy (zF a b)
theorem O9{a b:BitVec 32}(hx:AC T x= .c (.val (Es a)))(hy:AC T y= .c (.val (Es b))):AI P (AC T) M (.binOp .xor t x y t')=some ((.c (.val (Es (a^^^b))))):=
 Bs hx hy (wo a b)
theorem R4{a b:BitVec 8}(hx:AC T x= .c (.val (U8 a)))(hy:AC T y= .c (.val (U8 b))):AI P (AC T) M (.binOp .sub t x y t')=some ((.c (.val (U8 (a-b))))):=
 Bs hx hy (yy a b)
theorem Lr{a b:BitVec 8}(hx:AC T x= .c (.val (U8 a)))(hy:AC T y= .c (.val (U8 b))):AI P (AC T) M (.binOp .and t x y t')=some ((.c (.val (U8 (a&&&b))))):=
 Bs hx hy (yn a b)
theorem bJ{a b:BitVec 8}(hx:AC T x= .c (.val (U8 a)))(hy:AC T y= .c (.val (U8 b))):AI P (AC T) M (.binOp .or t x y t')=some ((.c (.val (U8 (a ||| b))))):=
 Bs hx hy (or8 a b)
theorem VP{a b:BitVec 8}(hx:AC T x= .c (.val (U8 a)))(hy:AC T y= .c (.val (U8 b))):AI P (AC T) M (.binOp .xor t x y t')=some ((.c (.val (U8 (a^^^b))))):=
 Bs hx hy (zn a b)
theorem B2{a:BitVec 64}{kd:IntKind}{j:Nat}(hx:AC T x= .c (.val (BP a)))(hy:AC T y= .c (.val (.int kd (j:Int)))):AI P (AC T) M (.binOp .shl t x y t')=some ((.c (.val (BP (a<<<j))))):=
 Bs hx hy (vR)
theorem CQ{a:BitVec 64}{kd:IntKind}{j:Nat}(hx:AC T x= .c (.val (BP a)))(hy:AC T y= .c (.val (.int kd (j:Int)))):AI P (AC T) M (.binOp .shr t x y t')=some ((.c (.val (BP (a>>>j))))):=
 Bs hx hy (vL)
theorem Q7{a:BitVec 32}{kd:IntKind}{j:Nat}(hx:AC T x= .c (.val (Es a)))(hy:AC T y= .c (.val (.int kd (j:Int)))):AI P (AC T) M (.binOp .shr t x y t')=some ((.c (.val (Es (a>>>j))))):=
 Bs hx hy (vV)
theorem Xq{a:BitVec 8}{kd:IntKind}{j:Nat}(hx:AC T x= .c (.val (U8 a)))(hy:AC T y= .c (.val (.int kd (j:Int)))):AI P (AC T) M (.binOp .shl t x y t')=some ((.c (.val (U8 (a<<<j))))):=
 Bs hx hy (xd)
theorem Ql{a:BitVec 8}{kd:IntKind}{j:Nat}(hx:AC T x= .c (.val (U8 a)))(hy:AC T y= .c (.val (.int kd (j:Int)))):AI P (AC T) M (.binOp .shr t x y t')=some ((.c (.val (U8 (a>>>j))))):=
 Bs hx hy (wU)
theorem lF{a:BitVec 64}{b:BitVec 64}(hx:AC T x= .c (.val (BP a)))(hy:AC T y= .c (.val (BP b))):AI P (AC T) M (.binOp .shl t x y t')=some ((.c (.val (BP (a<<<b.toNat))))):=
 Bs hx hy (uY a b)
theorem ll{a:BitVec 64}{b:BitVec 64}(hx:AC T x= .c (.val (BP a)))(hy:AC T y= .c (.val (BP b))):AI P (AC T) M (.binOp .shr t x y t')=some ((.c (.val (BP (a>>>b.toNat))))):=
 Bs hx hy (sk a b)
theorem kz{a:BitVec 32}{b:BitVec 64}(hx:AC T x= .c (.val (Es a)))(hy:AC T y= .c (.val (BP b))):AI P (AC T) M (.binOp .shl t x y t')=some ((.c (.val (Es (a<<<b.toNat))))):=
 Bs hx hy (su a b)
theorem oI{a:BitVec 32}{b:BitVec 64}(hx:AC T x= .c (.val (Es a)))(hy:AC T y= .c (.val (BP b))):AI P (AC T) M (.binOp .shr t x y t')=some ((.c (.val (Es (a>>>b.toNat))))):=
 Bs hx hy (tz a b)
theorem pA{a b:BitVec 64}(hx:AC T x= .c (.val (BP a)))(hy:AC T y= .c (.val (BP b))):AI P (AC T) M (.binOp .eql t x y t')=some ((.c (.val (.bool (a==b))))):=
 Bs hx hy (xU a b)
theorem Ys{a b:BitVec 8}(hx:AC T x= .c (.val (U8 a)))(hy:AC T y= .c (.val (U8 b))):AI P (AC T) M (.binOp .eql t x y t')=some ((.c (.val (.bool (a==b))))):=
 Bs hx hy (yx a b)
theorem vd{a b:BitVec 8}(hx:AC T x= .c (.val (U8 a)))(hy:AC T y= .c (.val (U8 b))):AI P (AC T) M (.binOp .neq t x y t')=some ((.c (.val (.bool (a !=b))))):=
 Bs hx hy (zZ a b)
theorem BE{a b:Nat}(hx:AC T x= .c (.val (.int .i64 (a:Int))))(hy:AC T y= .c (.val (.int .i64 (b:Int)))):AI P (AC T) M (.binOp .lss t x y t')=some ((.c (.val (.bool (decide (a<b)))))):=
 Bs hx hy (yq)
theorem dx{a b:Nat}(hx:AC T x= .c (.val (.int .i64 (a:Int))))(hy:AC T y= .c (.val (.int .i64 (b:Int)))):AI P (AC T) M (.binOp .leq t x y t')=some ((.c (.val (.bool (decide (a≤b)))))):=
 Bs hx hy (zy)
theorem Il{a b:Nat}(hx:AC T x= .c (.val (.int .i64 (a:Int))))(hy:AC T y= .c (.val (.int .i64 (b:Int)))):AI P (AC T) M (.binOp .gtr t x y t')=some ((.c (.val (.bool (decide (b<a)))))):=
 Bs hx hy (yu)
theorem MZ{a b:Nat}(hx:AC T x= .c (.val (.int .i64 (a:Int))))(hy:AC T y= .c (.val (.int .i64 (b:Int)))):AI P (AC T) M (.binOp .geq t x y t')=some ((.c (.val (.bool (decide (b≤a)))))):=
 Bs hx hy (zJ)
theorem B4{a b:Nat}(hx:AC T x= .c (.val (.int .i64 (a:Int))))(hy:AC T y= .c (.val (.int .i64 (b:Int)))):AI P (AC T) M (.binOp .eql t x y t')=some ((.c (.val (.bool (decide (a=b)))))):=
 Bs hx hy (yz)
theorem GL{a b:Nat}(hx:AC T x= .c (.val (.int .i64 (a:Int))))(hy:AC T y= .c (.val (.int .i64 (b:Int)))):AI P (AC T) M (.binOp .neq t x y t')=some ((.c (.val (.bool (!decide (a=b)))))):=
 Bs hx hy (zB)
theorem Dx{a b:Nat}(hx:AC T x= .c (.val (.int .i64 (a:Int))))(hy:AC T y= .c (.val (.int .i64 (b:Int))))(h:a+b≤9223372036854775807):AI P (AC T) M (.binOp .add t x y t')=some ((.c (.val (.int .i64 ((a+b:Nat):Int))))):=
 Bs hx hy (addN h)
theorem FN{a b:Nat}(hx:AC T x= .c (.val (.int .i64 (a:Int))))(hy:AC T y= .c (.val (.int .i64 (b:Int))))(h:b≤a)(h2:a≤9223372036854775807):AI P (AC T) M (.binOp .sub t x y t')=some ((.c (.val (.int .i64 ((a-b:Nat):Int))))):=
 Bs hx hy (zo h h2)
theorem Ls{a b:Nat}(hx:AC T x= .c (.val (.int .i64 (a:Int))))(hy:AC T y= .c (.val (.int .i64 (b:Int))))(h:a*b≤9223372036854775807):AI P (AC T) M (.binOp .mul t x y t')=some ((.c (.val (.int .i64 ((a*b:Nat):Int))))):=
 Bs hx hy (mulN h)
theorem SD{a b:Nat}(hx:AC T x= .c (.val (.int .i64 (a:Int))))(hy:AC T y= .c (.val (.int .i64 (b:Int))))(h:0<b)(h2:a≤9223372036854775807):AI P (AC T) M (.binOp .quo t x y t')=some ((.c (.val (.int .i64 ((a/b:Nat):Int))))):=
 Bs hx hy (zO h h2)
theorem IS{a b:Nat}(hx:AC T x= .c (.val (.int .i64 (a:Int))))(hy:AC T y= .c (.val (.int .i64 (b:Int))))(h:0<b)(h2:a≤9223372036854775807):AI P (AC T) M (.binOp .rem t x y t')=some ((.c (.val (.int .i64 ((a%b:Nat):Int))))):=
 Bs hx hy (zm h h2)
theorem R2{a b:Int}(hx:AC T x= .c (.val (.int .i64 a)))(hy:AC T y= .c (.val (.int .i64 b))):AI P (AC T) M (.binOp .lss t x y t')=some ((.c (.val (.bool (decide (a<b)))))):=
 Bs hx hy (yY)
theorem uZ{a b:Int}(hx:AC T x= .c (.val (.int .i64 a)))(hy:AC T y= .c (.val (.int .i64 b))):AI P (AC T) M (.binOp .gtr t x y t')=some ((.c (.val (.bool (decide (b<a)))))):=
 Bs hx hy (yP)
theorem dJ{a b:Int}(hx:AC T x= .c (.val (.int .i64 a)))(hy:AC T y= .c (.val (.int .i64 b))):AI P (AC T) M (.binOp .geq t x y t')=some ((.c (.val (.bool (decide (b≤a)))))):=
 Bs hx hy (yR)
theorem up{a b:Int}(hx:AC T x= .c (.val (.int .i64 a)))(hy:AC T y= .c (.val (.int .i64 b)))(h: -9223372036854775808≤a-b∧a-b≤9223372036854775807):AI P (AC T) M (.binOp .sub t x y t')=some ((.c (.val (.int .i64 (a-b))))):=
 Bs hx hy (wT h)
end
section
variable {t:TypeId}
theorem sf(x y:BitVec 64):binOp .gtr t (BP x) (BP y)=(pure (.bool (decide (y.toNat<x.toNat))):Sem Value):=by
 show (pure (Value.bool (decide ((y.toNat:Int)<(x.toNat:Int)))):Sem Value)=_
 congr 2;exact decide_eq_decide.2 O_
theorem sE(i:Int):IntKind.u64.wrap i=tn (BitVec.ofInt 64 i):=Eh i
end
section
variable {P:Program} {k N:Nat} {ops:Array Oper} {d:Nat} {ty:TypeId} {pos:String} {af:Array Edge} {l0:List Oper} {T:Nat→AV} {M M':Ag} {K:St→Prop} {t t':TypeId} {x y:Operand}
theorem gH{a b:BitVec 64}(hx:AC T x= .c (.val (BP a)))(hy:AC T y= .c (.val (BP b))):AI P (AC T) M (.binOp .gtr t x y t')=some (.c (.val (.bool (decide (b.toNat<a.toNat))))):=Bs hx hy (sf a b)
def S3(l:List Nat):List Int:=l.map Int.ofNat
def sX(l:List Nat)(i:Nat):Nat:=l.getD i 0
def wN(l:List Nat)(i v:Nat):List Nat:=l.set i v
theorem ZF(l:List Nat):(S3 l).length=l.length:=by simp [S3]
@[simp] theorem ah(l:List Nat)(i v:Nat):(wN l i v).length=l.length:=by simp [wN]
theorem gc(l:List Nat)(i:Nat):AX (S3 l) i=((sX l i:Nat):Int):=by
 unfold AX S3 sX
 simp only [List.getD_eq_getElem?_getD,List.getElem?_map]
 cases l[i]?<;>rfl
theorem MI{a:Operand}{b o:Nat}{own:Bool}{x:List Nat}(ha:AC T a= .c (.ptr b o))(hm:M[b]?=some (.row own (.ai (S3 x))))(hr:A5 P t=some false)(ho:o<x.length):AI P (AC T) M (.load t a)=some (.c (.val (.int .i64 ((sX x o:Nat):Int)))):=by
 rw [Iz ha hm hr (by rw [ZF];exact ho),gc]
end
section
variable {P:Program} {k N:Nat} {ops:Array Oper} {d:Nat} {ty:TypeId} {pos:String} {af:Array Edge} {l0:List Oper} {T:Nat→AV} {M M':Ag} {K:St→Prop} {t t':TypeId}
theorem Ku{x:Operand}{b o n cap sz el:Nat}(hx:AC T x= .c (.sl b o n cap sz))(hu:P.underlying t=some (.slice el)):AI P (AC T) M (.call { callee:= .builtin .len,args:= #[x],argTypes:= #[t] })=some (.c (.val (.int .i64 (n:Int)))):=by
 show Qe P t (AC T x)=_
 rw [hx];simp [Qe,DD,hu]
theorem XZ{x y:Operand}{ts:Array TypeId}{a b:Nat}(hx:AC T x= .c (.val (.int .i64 (a:Int))))(hy:AC T y= .c (.val (.int .i64 (b:Int)))):AI P (AC T) M (.call { callee:= .builtin .min,args:= #[x,y],argTypes:=ts })=some (.c (.val (.int .i64 ((min a b:Nat):Int)))):=by
 show aD [AC T x,AC T y]=_
 rw [hx,hy];simp only [aD,if_true]
 congr 4
 split<;>omega
theorem Tv{x:Operand}{n el b o len cap sz:Nat}(hx:AC T x= .c (.sl b o len cap sz))(hu:P.underlying t=some (.array n el))(h1:n≤len)(h0:0<n):AI P (AC T) M (.sliceToArrayPointer t x)=some (.c (.ptr b o)):=by
 show LX P t (AC T x)=_
 rw [hx];simp [LX,hu,h1,h0]
theorem vw{x:Operand}{lo hi:Option Operand}{n el b o sz l h:Nat}{own:Bool}{y:Arr}(hx:AC T x= .c (.ptr b o))(hu:P.underlying t=some (.array n el))(hs:DN P el=some sz)(hm:M[b]?=some (.row own y))
  (hl:PJ 0 (lo.map (AC T))=some (l:Int)) (hh:PJ n (hi.map (AC T))=some (h:Int)) (h1:l≤h) (h2:h≤n) (hf:o+n*sz≤y.size):AI P (AC T) M (.slice t x lo hi none)=some (.c (.sl b (o+l*sz) (h-l) (n-l) sz)):=by
 show G9 P M t (AC T x) (lo.map (AC T)) (hi.map (AC T))=_
 rw [hx]
 simp only [G9,hu,hs,hl,hh,hm]
 rw [if_pos ⟨by omega,by omega,by omega,hf⟩]
 congr 3<;>omega
theorem HX{x:Operand}{lo hi:Option Operand}{n el b l h len cp:Nat}{own:Bool}{y:Arr}(hx:AC T x= .c (.ptr b 0))(hu:P.underlying t=some (.array n el))(hs:DN P el=some 1)(hm:M[b]?=some (.row own y))
  (hl:PJ 0 (lo.map (AC T))=some (l:Int)) (hh:PJ n (hi.map (AC T))=some (h:Int)) (h1:l≤h) (h2:h≤n) (hf:n≤y.size) (hlen:h-l=len) (hcp:n-l=cp):AI P (AC T) M (.slice t x lo hi none)=some (.c (.sl b l len cp 1)):=by
 subst hlen;subst hcp
 rw [vw hx hu hs hm hl hh h1 h2 O_,Nat.zero_add,Nat.mul_one]
theorem kC{x:Operand}{lo hi:Option Operand}{el b o sz len cap l h:Nat}(hx:AC T x= .c (.sl b o len cap sz))(hu:P.underlying t=some (.slice el))(hs:DN P el=some sz)
  (hl:PJ 0 (lo.map (AC T))=some (l:Int)) (hh:PJ len (hi.map (AC T))=some (h:Int)) (h1:l≤h) (h2:h≤max len cap):AI P (AC T) M (.slice t x lo hi none)=some (.c (.sl b (o+l*sz) (h-l) (cap-l) sz)):=by
 show G9 P M t (AC T x) (lo.map (AC T)) (hi.map (AC T))=_
 rw [hx]
 simp only [G9,hu,hl,hh]
 rw [if_pos ⟨hs,by omega,by omega,by omega⟩]
 congr 3<;>omega
theorem YF{x:Operand}{lo hi:Option Operand}{el b len cap l h:Nat}(hx:AC T x= .c (.sl b 0 len cap 1))(hu:P.underlying t=some (.slice el))(hs:DN P el=some 1)
  (hl:PJ 0 (lo.map (AC T))=some (l:Int)) (hh:PJ len (hi.map (AC T))=some (h:Int)) (h1:l≤h) (h2:h≤max len cap):AI P (AC T) M (.slice t x lo hi none)=some (.c (.sl b l (h-l) (cap-l) 1)):=by
 rw [kC hx hu hs hl hh h1 h2,Nat.zero_add,Nat.mul_one]
theorem Yj{x:Operand}{lo hi:Option Operand}{el b o len cap l h:Nat}(hx:AC T x= .c (.sl b o len cap 1))(hu:P.underlying t=some (.slice el))(hs:DN P el=some 1)
  (hl:PJ 0 (lo.map (AC T))=some (l:Int)) (hh:PJ len (hi.map (AC T))=some (h:Int)) (h1:l≤h) (h2:h≤max len cap):AI P (AC T) M (.slice t x lo hi none)=some (.c (.sl b (o+l) (h-l) (cap-l) 1)):=by
 rw [kC hx hu hs hl hh h1 h2,Nat.mul_one]
theorem cz{x:Operand}{hi:Option Operand}{el b o sz len cap h:Nat}(hx:AC T x= .c (.sl b o len cap sz))(hu:P.underlying t=some (.slice el))(hs:DN P el=some sz)
  (hh:PJ len (hi.map (AC T))=some (h:Int)) (h2:h≤max len cap):AI P (AC T) M (.slice t x none hi none)=some (.c (.sl b o h cap sz)):=by
 rw [kC (lo:=none) (l:=0) hx hu hs rfl hh (Nat.zero_le _) h2];simp
theorem Q1{α:Type}{f:Value→Option α}{g:α→Value}(h:∀x,f (g x)=some x):∀l:List α,Sz f (l.map g)=some l
 |[]=>rfl
 |x::l=>by simp [Sz,h,Q1 h l]
theorem wg(l:AB 8):Bu (l.map U8)= .a8 l:=by unfold Bu;rw [Q1 ur]
theorem LS{α β:Type}{f:Value→Option α}{g:β→Value}(h:∀x,f (g x)=none):∀l:List β,l≠[]→Sz f (l.map g)=none
 |[],hl=>absurd rfl hl
 |x::l,_=>by simp [Sz,h]
theorem ri{l:AB 32}(hl:l≠[]):Bu (l.map Es)= .a32 l:=by unfold Bu;rw [LS (fun _=>rfl) l hl,Q1 lf]
theorem rV{l:AB 64}(hl:l≠[]):Bu (l.map BP)= .a64 l:=by unfold Bu;rw [LS (fun _=>rfl) l hl,LS (fun _=>rfl) l hl,Q1 av]
theorem zR{l:List Int}(hl:l≠[]):Bu (l.map (Value.int .i64))= .ai l:=by unfold Bu;rw [LS (fun _=>rfl) l hl,LS (fun _=>rfl) l hl,LS (fun _=>rfl) l hl,Q1 (f:=i?) (g:=Value.int .i64) (fun _=>rfl)]
theorem nX{el sz by':Nat}(hu:P.underlying t=some (.slice el))(he:Bh P el=some (sz,by')):CK P (AC T) M (.buildSlice t 0 #[])=some (.c .esl,M++[]):=by
 show Ca P M t 0 []=_
 simp [Ca,hu,he]
theorem pi{el by' len n:Nat}{ps:Array (Nat×Operand)}{vs:List Value}(hu:P.underlying t=some (.slice el))(he:Bh P el=some (1,by'))(hd:EP 0 (ps.toList.map fun p=>(p.1,AC T p.2))=some vs)(hl:ps.toList.length=len)(h0:¬len=0)(h1:len≤16777216)(hn:M.length=n):
  CK P (AC T) M (.buildSlice t len ps)=some (.c (.sl n 0 len len 1),M++[.row true (Bu vs)]):=by
 show Ca P M t len (ps.toList.map fun p=>(p.1,AC T p.2))=_
 subst hn
 simp only [Ca,hu,he,Nat.mul_one]
 rw [if_neg h0,if_pos h1,if_pos ⟨trivial,by simpa using hl⟩,hd]
theorem Wf{l:AB 8}{el by' len n:Nat}{ps:Array (Nat×Operand)}(hu:P.underlying t=some (.slice el))(he:Bh P el=some (1,by'))(hd:EP 0 (ps.toList.map fun p=>(p.1,AC T p.2))=some (l.map U8))(hl:ps.toList.length=len)(h0:¬len=0)(h1:len≤16777216)(hn:M.length=n):
  CK P (AC T) M (.buildSlice t len ps)=some (.c (.sl n 0 len len 1),M++[.row true (.a8 l)]):=by
 have hn0:l≠[]:=by
  intro e;subst e
  have:=Da hd
  have h9:ps.toList.length=ps.size:=by simp
  simp at this
  omega
 rw [pi hu he hd hl h0 h1 hn,wg l]
theorem tB{l:AB 8}{n el:Nat}{ps:Array (Nat×Operand)}(hz:(P.info? t).bind (fun i=>i.zero.map (·.cells.size))=some n)(hu:P.underlying t=some (.array n el))(hs:DN P el=some 1)(hd:EP 0 (ps.toList.map fun p=>(p.1,AC T p.2))=some (l.map U8))(hl:ps.toList.length=n)(h0:¬n=0):
  AI P (AC T) M (.build t ps)=some (.agg (.a8 l)):=by
 show Bo P t (ps.toList.map fun p=>(p.1,AC T p.2))=_
 obtain ⟨it,hi,hz2⟩:=Option.bind_eq_some_iff.1 hz
 obtain ⟨z,hz3,hz4⟩:=Option.map_eq_some_iff.1 hz2
 obtain ⟨ie,hie,h1⟩:=Option.map_eq_some_iff.1 hs
 have hn0:l≠[]:=by
  intro e;subst e
  have:=Da hd
  have h9:ps.toList.length=ps.size:=by simp
  simp at this
  omega
 simp only [Bo,hi,hu,hz3,hie]
 rw [if_pos ⟨h1,by simpa using hl,hz4⟩,hd]
 simp only [wg l]
theorem xu{x i:Operand}{n el j:Nat}{kd:IntKind}{y:AB 8}(hx:AC T x= .agg (.a8 y))(hi:AC T i= .c (.val (.int kd (j:Int))))(hu:P.underlying t=some (.array n el))(hs:DN P el=some 1)(hr:A5 P el=some false)(h0:j<n)(hl:j<y.length):
  AI P (AC T) M (.index t x i)=some (.c (.val (U8 (nth y j)))):=by
 show Ws P t (AC T x) (AC T i)=_
 rw [hx,hi]
 have h1:(0:Int)≤(j:Int)∧(j:Int)<(n:Int):=by omega
 simp only [Ws,hu,FD,hs,h1,and_self,if_true,Int.toNat_natCast,Nat.mul_one,Eu,hr]
 rw [if_pos (show j<Arr.size (.a8 y) from hl)]
 rfl
theorem om{x y:Operand}{el by' a b n:Nat}{ka kb:IntKind}(hu:P.underlying t=some (.slice el))(hx:AC T x= .c (.val (.int ka (a:Int))))(hy:AC T y= .c (.val (.int kb (b:Int))))(he:Bh P el=some (1,by'))(hrep:∀n,Iq P el n=some (.a8 (Am n)))(h1:a≤b)(h2:b*by'≤281474976710656)(h3:b≤9223372036854775807)(hn:M.length=n):
  CK P (AC T) M (.makeSlice t x y)=some (.c (.sl n 0 a b 1),M++[.row true (.a8 (Am b))]):=by
 show FT P M t (AC T x) (AC T y)=_
 subst hn
 rw [hx,hy]
 simp only [FT,hu,FD,he]
 rw [if_pos ⟨by omega,by omega,by rw [←Int.natCast_mul];omega,by omega⟩]
 simp [hrep]
theorem W3{s x:Operand}{el by' b n c m:Nat}{own:Bool}{r:AB 8}{e2:TypeId}(hs:AC T s= .c .esl)(hx:AC T x= .c (.sl b 0 n c 1))(hm:M[b]?=some (.row own (.a8 r)))(hu:P.underlying t=some (.slice el))(hu2:P.underlying t'=some (.slice e2))(he:Bh P el=some (1,by'))(hl:r.length=n)(hb:n*by'≤140737488355328∧n≤9223372036854775807)(hn:M.length=m):
  CK P (AC T) M (.call { callee:= .builtin .append,args:= #[s,x],argTypes:= #[t,t'] })=some (.c (.sl m 0 n n 1),M++[.row true (.a8 r)]):=by
 show BX P M t t' (AC T s) (AC T x)=_
 subst hn
 rw [hs,hx]
 have hz:Arr.size (.a8 r)=n:=hl
 simp [BX,hu,E5,hu2,he,Ew,hm,hz,F1,Arr.one,hb.1,hb.2]
theorem kr{s x:Operand}{el by' b o n c m:Nat}{own:Bool}{r:AB 8}{e2:TypeId}(hs:AC T s= .c .esl)(hx:AC T x= .c (.sl b o n c 1))(hm:M[b]?=some (.row own (.a8 r)))(hu:P.underlying t=some (.slice el))(hu2:P.underlying t'=some (.slice e2))(he:Bh P el=some (1,by'))(hl:o+n≤r.length)(hb:n*by'≤140737488355328∧n≤9223372036854775807)(hn:M.length=m):
  CK P (AC T) M (.call { callee:= .builtin .append,args:= #[s,x],argTypes:= #[t,t'] })=some (.c (.sl m 0 n n 1),M++[.row true (.a8 (cut r o n))]):=by
 show BX P M t t' (AC T s) (AC T x)=_
 subst hn
 rw [hs,hx]
 have hw:F1 (.a8 r) o (n*1)= .a8 (cut r o n):=by
  unfold F1
  split
  ·rename_i h
   have h2:r.length=n:=by have:=h.2;simp [Arr.size] at this;omega
   rw [h.1];subst h2;simp [cut]
  ·rw [Nat.mul_one];rfl
 have hsz:o+n*1≤Arr.size (.a8 r):=by simp [Arr.size];exact hl
 have hsrc:Ew M 1 (.c (.sl b o n c 1))=some (n,.a8 (cut r o n)):=by
  simp only [Ew,hm]
  rw [if_pos ⟨trivial,hsz⟩,hw]
 simp [BX,hu,E5,hu2,he,hsrc,Arr.one,hb.1,hb.2]
theorem qU{s x:Operand}{el by' b n c m:Nat}{own:Bool}{r:AB 8}{e2:TypeId}(hs:AC T s= .c .nsl)(hx:AC T x= .c (.sl b 0 n c 1))(hm:M[b]?=some (.row own (.a8 r)))(hu:P.underlying t=some (.slice el))(hu2:P.underlying t'=some (.slice e2))(he:Bh P el=some (1,by'))(hl:r.length=n)(hb:n*by'≤140737488355328∧n≤9223372036854775807)(hn:M.length=m):
  CK P (AC T) M (.call { callee:= .builtin .append,args:= #[s,x],argTypes:= #[t,t'] })=some (.c (.sl m 0 n n 1),M++[.row true (.a8 r)]):=by
 show BX P M t t' (AC T s) (AC T x)=_
 subst hn
 rw [hs,hx]
 have hz:Arr.size (.a8 r)=n:=hl
 simp [BX,hu,E5,hu2,he,Ew,hm,hz,F1,Arr.one,hb.1,hb.2]
theorem kB{s x:Operand}{el by' b o n c m:Nat}{own:Bool}{r:AB 8}{e2:TypeId}(hs:AC T s= .c .nsl)(hx:AC T x= .c (.sl b o n c 1))(hm:M[b]?=some (.row own (.a8 r)))(hu:P.underlying t=some (.slice el))(hu2:P.underlying t'=some (.slice e2))(he:Bh P el=some (1,by'))(hl:o+n≤r.length)(hb:n*by'≤140737488355328∧n≤9223372036854775807)(hn:M.length=m):
  CK P (AC T) M (.call { callee:= .builtin .append,args:= #[s,x],argTypes:= #[t,t'] })=some (.c (.sl m 0 n n 1),M++[.row true (.a8 (cut r o n))]):=by
 show BX P M t t' (AC T s) (AC T x)=_
 subst hn
 rw [hs,hx]
 have hw:F1 (.a8 r) o (n*1)= .a8 (cut r o n):=by
  unfold F1
  split
  ·rename_i h
   have h2:r.length=n:=by have:=h.2;simp [Arr.size] at this;omega
   rw [h.1];subst h2;simp [cut]
  ·rw [Nat.mul_one];rfl
 have hsz:o+n*1≤Arr.size (.a8 r):=by simp [Arr.size];exact hl
 have hsrc:Ew M 1 (.c (.sl b o n c 1))=some (n,.a8 (cut r o n)):=by
  simp only [Ew,hm]
  rw [if_pos ⟨trivial,hsz⟩,hw]
 simp [BX,hu,E5,hu2,he,hsrc,Arr.one,hb.1,hb.2]
theorem sr{s x:Operand}{el by' b0 len cap b n c m:Nat}{own:Bool}{u r:AB 8}{e2:TypeId}(hs:AC T s= .c (.sl b0 0 len cap 1))(hms:M[b0]?=some (.row true (.a8 u)))(hx:AC T x= .c (.sl b 0 n c 1))(hm:M[b]?=some (.row own (.a8 r)))(hu:P.underlying t=some (.slice el))(hu2:P.underlying t'=some (.slice e2))(he:Bh P el=some (1,by'))
  (hlu:u.length=len) (hl:r.length=n) (hb:(len+n)*by'≤140737488355328∧len+n≤9223372036854775807∧n*by'≤140737488355328) (hn:M.length=m) (hM:M.set b0 .dead++[.row true (.a8 (u++r))]=M') (hd:decide (d<N)=true) (hk:WO P k ops l0 ⟨N,upd T d (.c (.sl m 0 (len+n) (len+n) 1)),M'⟩ K):
  WO P k ops (⟨some d,.call { callee:= .builtin .append,args:= #[s,x],argTypes:= #[t,t'] },ty,pos,af,none⟩::l0) ⟨N,T,M⟩ K:=
 QX (by
  show BX P M t t' (AC T s) (AC T x)=_
  subst hn;subst hM
  rw [hs,hx]
  have hz:Arr.size (.a8 r)=n:=hl
  have hz2:Arr.size (.a8 u)=len:=hlu
  have hn9:n≤9223372036854775807:=by omega
  simp [BX,hu,E5,hu2,he,Ew,hm,hms,hz,hz2,F1,Arr.one,Arr.app,hb.1,hb.2.1,hb.2.2,hn9]) hd hk
theorem qJ{s x:Operand}{el by' b0 len cap b o n c m:Nat}{own:Bool}{u r:AB 8}{e2:TypeId}(hs:AC T s= .c (.sl b0 0 len cap 1))(hms:M[b0]?=some (.row true (.a8 u)))(hx:AC T x= .c (.sl b o n c 1))(hm:M[b]?=some (.row own (.a8 r)))(hu:P.underlying t=some (.slice el))(hu2:P.underlying t'=some (.slice e2))(he:Bh P el=some (1,by'))
  (hlu:u.length=len) (hl:o+n≤r.length) (hb:(len+n)*by'≤140737488355328∧len+n≤9223372036854775807∧n*by'≤140737488355328) (hn:M.length=m) (hM:M.set b0 .dead++[.row true (.a8 (u++cut r o n))]=M') (hd:decide (d<N)=true) (hk:WO P k ops l0 ⟨N,upd T d (.c (.sl m 0 (len+n) (len+n) 1)),M'⟩ K):
  WO P k ops (⟨some d,.call { callee:= .builtin .append,args:= #[s,x],argTypes:= #[t,t'] },ty,pos,af,none⟩::l0) ⟨N,T,M⟩ K:=
 QX (by
  show BX P M t t' (AC T s) (AC T x)=_
  subst hn;subst hM
  rw [hs,hx]
  have hw:F1 (.a8 r) o (n*1)= .a8 (cut r o n):=by
   unfold F1
   split
   ·rename_i h
    have h2:r.length=n:=by have:=h.2;simp [Arr.size] at this;omega
    rw [h.1];subst h2;simp [cut]
   ·rw [Nat.mul_one];rfl
  have hsz:o+n*1≤Arr.size (.a8 r):=by simp [Arr.size];exact hl
  have hsrc:Ew M 1 (.c (.sl b o n c 1))=some (n,.a8 (cut r o n)):=by
   simp only [Ew,hm]
   rw [if_pos ⟨trivial,hsz⟩,hw]
  have hz2:Arr.size (.a8 u)=len:=hlu
  have hn9:n≤9223372036854775807:=by omega
  simp [BX,hu,E5,hu2,he,hsrc,hms,hz2,F1,Arr.one,Arr.app,hb.1,hb.2.1,hb.2.2,hn9]) hd hk
theorem sj{l:AB 32}{el by' len n:Nat}{ps:Array (Nat×Operand)}(hu:P.underlying t=some (.slice el))(he:Bh P el=some (1,by'))(hd:EP 0 (ps.toList.map fun p=>(p.1,AC T p.2))=some (l.map Es))(hl:ps.toList.length=len)(h0:¬len=0)(h1:len≤16777216)(hn:M.length=n):
  CK P (AC T) M (.buildSlice t len ps)=some (.c (.sl n 0 len len 1),M++[.row true (.a32 l)]):=by
 have hn0:l≠[]:=by
  intro e;subst e
  have:=Da hd
  have h9:ps.toList.length=ps.size:=by simp
  simp at this
  omega
 rw [pi hu he hd hl h0 h1 hn,ri hn0]
theorem gI{l:AB 32}{n el:Nat}{ps:Array (Nat×Operand)}(hz:(P.info? t).bind (fun i=>i.zero.map (·.cells.size))=some n)(hu:P.underlying t=some (.array n el))(hs:DN P el=some 1)(hd:EP 0 (ps.toList.map fun p=>(p.1,AC T p.2))=some (l.map Es))(hl:ps.toList.length=n)(h0:¬n=0):
  AI P (AC T) M (.build t ps)=some (.agg (.a32 l)):=by
 show Bo P t (ps.toList.map fun p=>(p.1,AC T p.2))=_
 obtain ⟨it,hi,hz2⟩:=Option.bind_eq_some_iff.1 hz
 obtain ⟨z,hz3,hz4⟩:=Option.map_eq_some_iff.1 hz2
 obtain ⟨ie,hie,h1⟩:=Option.map_eq_some_iff.1 hs
 have hn0:l≠[]:=by
  intro e;subst e
  have:=Da hd
  have h9:ps.toList.length=ps.size:=by simp
  simp at this
  omega
 simp only [Bo,hi,hu,hz3,hie]
 rw [if_pos ⟨h1,by simpa using hl,hz4⟩,hd]
 simp only [ri hn0]
theorem sZ{l:AB 64}{el by' len n:Nat}{ps:Array (Nat×Operand)}(hu:P.underlying t=some (.slice el))(he:Bh P el=some (1,by'))(hd:EP 0 (ps.toList.map fun p=>(p.1,AC T p.2))=some (l.map BP))(hl:ps.toList.length=len)(h0:¬len=0)(h1:len≤16777216)(hn:M.length=n):
  CK P (AC T) M (.buildSlice t len ps)=some (.c (.sl n 0 len len 1),M++[.row true (.a64 l)]):=by
 have hn0:l≠[]:=by
  intro e;subst e
  have:=Da hd
  have h9:ps.toList.length=ps.size:=by simp
  simp at this
  omega
 rw [pi hu he hd hl h0 h1 hn,rV hn0]
theorem PE{l:AB 64}{n el:Nat}{ps:Array (Nat×Operand)}(hz:(P.info? t).bind (fun i=>i.zero.map (·.cells.size))=some n)(hu:P.underlying t=some (.array n el))(hs:DN P el=some 1)(hd:EP 0 (ps.toList.map fun p=>(p.1,AC T p.2))=some (l.map BP))(hl:ps.toList.length=n)(h0:¬n=0):
  AI P (AC T) M (.build t ps)=some (.agg (.a64 l)):=by
 show Bo P t (ps.toList.map fun p=>(p.1,AC T p.2))=_
 obtain ⟨it,hi,hz2⟩:=Option.bind_eq_some_iff.1 hz
 obtain ⟨z,hz3,hz4⟩:=Option.map_eq_some_iff.1 hz2
 obtain ⟨ie,hie,h1⟩:=Option.map_eq_some_iff.1 hs
 have hn0:l≠[]:=by
  intro e;subst e
  have:=Da hd
  have h9:ps.toList.length=ps.size:=by simp
  simp at this
  omega
 simp only [Bo,hi,hu,hz3,hie]
 rw [if_pos ⟨h1,by simpa using hl,hz4⟩,hd]
 simp only [rV hn0]
theorem uh{x i:Operand}{n el j:Nat}{kd:IntKind}{y:AB 64}(hx:AC T x= .agg (.a64 y))(hi:AC T i= .c (.val (.int kd (j:Int))))(hu:P.underlying t=some (.array n el))(hs:DN P el=some 1)(hr:A5 P el=some false)(h0:j<n)(hl:j<y.length):
  AI P (AC T) M (.index t x i)=some (.c (.val (BP (nth y j)))):=by
 show Ws P t (AC T x) (AC T i)=_
 rw [hx,hi]
 have h1:(0:Int)≤(j:Int)∧(j:Int)<(n:Int):=by omega
 simp only [Ws,hu,FD,hs,h1,and_self,if_true,Int.toNat_natCast,Nat.mul_one,Eu,hr]
 rw [if_pos (show j<Arr.size (.a64 y) from hl)]
 rfl
theorem aJ{l:List (Int)}{el by' len n:Nat}{ps:Array (Nat×Operand)}(hu:P.underlying t=some (.slice el))(he:Bh P el=some (1,by'))(hd:EP 0 (ps.toList.map fun p=>(p.1,AC T p.2))=some (l.map (Value.int .i64)))(hl:ps.toList.length=len)(h0:¬len=0)(h1:len≤16777216)(hn:M.length=n):
  CK P (AC T) M (.buildSlice t len ps)=some (.c (.sl n 0 len len 1),M++[.row true (.ai l)]):=by
 have hn0:l≠[]:=by
  intro e;subst e
  have:=Da hd
  have h9:ps.toList.length=ps.size:=by simp
  simp at this
  omega
 rw [pi hu he hd hl h0 h1 hn,zR hn0]
theorem tU{s x:Operand}{el by' b0 len cap b n c m:Nat}{own:Bool}{u r:List (Int)}{e2:TypeId}(hs:AC T s= .c (.sl b0 0 len cap 1))(hms:M[b0]?=some (.row true (.ai u)))(hx:AC T x= .c (.sl b 0 n c 1))(hm:M[b]?=some (.row own (.ai r)))(hu:P.underlying t=some (.slice el))(hu2:P.underlying t'=some (.slice e2))(he:Bh P el=some (1,by'))
  (hlu:u.length=len) (hl:r.length=n) (hb:(len+n)*by'≤140737488355328∧len+n≤9223372036854775807∧n*by'≤140737488355328) (hn:M.length=m) (hM:M.set b0 .dead++[.row true (.ai (u++r))]=M') (hd:decide (d<N)=true) (hk:WO P k ops l0 ⟨N,upd T d (.c (.sl m 0 (len+n) (len+n) 1)),M'⟩ K):
  WO P k ops (⟨some d,.call { callee:= .builtin .append,args:= #[s,x],argTypes:= #[t,t'] },ty,pos,af,none⟩::l0) ⟨N,T,M⟩ K:=
 QX (by
  show BX P M t t' (AC T s) (AC T x)=_
  subst hn;subst hM
  rw [hs,hx]
  have hz:Arr.size (.ai r)=n:=hl
  have hz2:Arr.size (.ai u)=len:=hlu
  have hn9:n≤9223372036854775807:=by omega
  simp [BX,hu,E5,hu2,he,Ew,hm,hms,hz,hz2,F1,Arr.one,Arr.app,hb.1,hb.2.1,hb.2.2,hn9]) hd hk
theorem My{c a b:Operand}{p:Bool}{v:AV}(hc:AC T c= .c (.val (.bool p)))(hp:p=true)(ha:AC T a=v):AI P (AC T) M (.pick c a b)=some v:=by
 subst hp
 simp only [AI,hc,if_true,ha]
theorem PC{c a b:Operand}{p:Bool}{v:AV}(hc:AC T c= .c (.val (.bool p)))(hp:p=false)(hb:AC T b=v):AI P (AC T) M (.pick c a b)=some v:=by
 subst hp
 simp only [AI,hc,hb]
 rfl
theorem vF{x:Operand}{e b o len cap sz m:Nat}{y:AB 8}{u:Option TypeDesc}(hx:AC T x= .c (.sl b o len cap sz))(ht:P.underlying t=some (.slice e))(hu:P.underlying e=u)(he:u=some (.int .u8))(hm:M[b]?=some (.row true (.a8 y)))(h0:0<len)(hn:M.length=m)(hM:M.set b .dead++[.row false (.a8 y)]=M')(hd:decide (d<N)=true)
  (hk:WO P k ops l0 ⟨N,upd T d (.c (.sl m o len cap sz)),M'⟩ K):WO P k ops (⟨some d,.convert t t x,ty,pos,af,none⟩::l0) ⟨N,T,M⟩ K:=
 QX (by
  subst hn;subst hM;subst he
  show TJ P M t t (AC T x)=_
  rw [hx]
  simp [TJ,Lu,YS,ht,hu,hm,h0,Arr.isMap]) hd hk
theorem jS{x:Operand}{a:BitVec 64}(hx:AC T x= .c (.val (BP a))):AI P (AC T) M (.unOp .xor t x)=some (.c (.val (BP (~~~a)))):=by
 simp only [AI,hx,xb];rfl
theorem ic{x:Operand}{a:BitVec 32}(hx:AC T x= .c (.val (Es a))):AI P (AC T) M (.unOp .xor t x)=some (.c (.val (Es (~~~a)))):=by
 simp only [AI,hx,wi];rfl
theorem Jl{x:Operand}{a:Bool}(hx:AC T x= .c (.val (.bool a))):AI P (AC T) M (.unOp .not t x)=some (.c (.val (.bool (!a)))):=by
 simp only [AI,hx];rfl
theorem kO{x y:Operand}{a b:Bool}(hx:AC T x= .c (.val (.bool a)))(hy:AC T y= .c (.val (.bool b)))(hu:P.underlying t=some .bool):AI P (AC T) M (.binOp .neq t x y t')=some (.c (.val (.bool (!(a==b))))):=by
 show NC P .neq t x y (AC T x) (AC T y)=_
 rw [hx,hy];simp [NC,Qs,hu]
theorem tS{x y:Operand}{a b:Int}(hx:AC T x= .c (.val (.int .i64 a)))(hy:AC T y= .c (.val (.int .i64 b))):AI P (AC T) M (.binOp .eql t x y t')=some (.c (.val (.bool (a==b)))):=Bs hx hy we
theorem ui{x y:Operand}{a b:Int}(hx:AC T x= .c (.val (.int .i64 a)))(hy:AC T y= .c (.val (.int .i64 b))):AI P (AC T) M (.binOp .neq t x y t')=some (.c (.val (.bool (a !=b)))):=Bs hx hy yG
theorem uv{f:FuncId}{ops2:Array Operand}{ts:Array TypeId}{args:List AV}{mc mc':Ag}{bs:List Nat}{v v':AV}{news:Ag}(h:Ev P (.call f args mc) (.val v mc'))(hf:(P.funcs[f]?).any (fun fn=>fn.body.isSome&& !(fn.name== "runtime.NumGoroutine"))=true)
  (hin:canon 0 (ops2.toList.map (AC T)) M=some (args,mc,bs)) (hM:Cv bs mc' (EG bs M.length) 0 M=M) (hN:(mc'.drop bs.length).map (Row.ren (EG bs M.length))=news) (hv:v.ren (EG bs M.length)=v'):
  Ev P (.op (.call { callee:= .value (.func f),args:=ops2,argTypes:=ts }) (AC T) M) (.val v' (M++news)):=by
 have:=Ev.fn (c:={ callee:= .value (.func f),args:=ops2,argTypes:=ts }) (e:=AC T) f rfl rfl hf hin h
 simp only [Fj,hM,hN,hv] at this
 exact this
theorem AZ{f:FuncId}{ops2:Array Operand}{ts:Array TypeId}{args:List AV}{mc mc':Ag}{bs:List Nat}{v v':AV}{news:Ag}(h:Ev P (.call f args mc) (.val v mc'))(hf:(P.funcs[f]?).any (fun fn=>fn.body.isSome&& !(fn.name== "runtime.NumGoroutine"))=true)
  (hin:canon 0 (ops2.toList.map (AC T)) (BT M)=some (args,mc,bs)) (hM:Cv bs mc' (EG bs (BT M).length) 0 (BT M)=BT M) (hN:(mc'.drop bs.length).map (Row.ren (EG bs (BT M).length))=news) (hv:v.ren (EG bs (BT M).length)=v'):
  Ev P (.op (.call { callee:= .value (.func f),args:=ops2,argTypes:=ts }) (AC T) M) (.val v' (M++news)):=
 .ro (uv h hf hin hM hN hv)
theorem Eg{f:FuncId}{ops2:Array Operand}{ts:Array TypeId}{args:List AV}{mc mc':Ag}{bs:List Nat}{v v':AV}{news M1:Ag}(h:Ev P (.call f args mc) (.val v mc'))(hf:(P.funcs[f]?).any (fun fn=>fn.body.isSome&& !(fn.name== "runtime.NumGoroutine"))=true)
  (hin:canon 0 (ops2.toList.map (AC T)) M=some (args,mc,bs)) (hM:Cv bs mc' (EG bs M.length) 0 M=M1) (hN:(mc'.drop bs.length).map (Row.ren (EG bs M.length))=news) (hv:v.ren (EG bs M.length)=v') (hA:M1++news=M'):
  Ev P (.op (.call { callee:= .value (.func f),args:=ops2,argTypes:=ts }) (AC T) M) (.val v' M'):=by
 have:=Ev.fn (c:={ callee:= .value (.func f),args:=ops2,argTypes:=ts }) (e:=AC T) f rfl rfl hf hin h
 simp only [Fj,hM,hN,hv,hA] at this
 exact this
theorem fu{f:FuncId}{x y z:Operand}{ts:Array TypeId}{a b:BitVec 64}{cv:Value}{c:BitVec 64}(hf:Tz P f add64Entry)(hx:AC T x= .c (.val (BP a)))(hy:AC T y= .c (.val (BP b)))(hz:AC T z= .c (.val cv))(hcv:cv=BP c)(hc:c.toNat≤1):
  Ev P (.op (.call { callee:= .value (.func f),args:= #[x,y,z],argTypes:=ts }) (AC T) M) (.val (lB a b c) (M++[])):=by
 rw [List.append_nil]
 refine Ev.add64 f rfl rfl hf ?_;show am lB [AC T x,AC T y,AC T z]=_
 rw [hx,hy,hz,hcv]
 simp [am,hc]
theorem ru{f:FuncId}{x y z:Operand}{ts:Array TypeId}{a b:BitVec 64}{cv:Value}{c:BitVec 64}(hf:Tz P f sub64Entry)(hx:AC T x= .c (.val (BP a)))(hy:AC T y= .c (.val (BP b)))(hz:AC T z= .c (.val cv))(hcv:cv=BP c)(hc:c.toNat≤1):
  Ev P (.op (.call { callee:= .value (.func f),args:= #[x,y,z],argTypes:=ts }) (AC T) M) (.val (lN a b c) (M++[])):=by
 rw [List.append_nil]
 refine Ev.sub64 f rfl rfl hf ?_;show am lN [AC T x,AC T y,AC T z]=_
 rw [hx,hy,hz,hcv]
 simp [am,hc]
end
theorem HD{α:Type}{l:List α}{n:Nat}(h:l.length=n):cut l 0 n=l:=by subst h;simp [cut]
theorem Xx{ι:Emb}{M:Ag}{w:World}(hR:R ι M w){b:Nat}{l:Loc}(h:ι b=some l):b<M.length:=by
 rcases Nat.lt_or_ge b M.length with h1 | h1
 ·exact h1
 ·rw [hR.dom b h1] at h;cases h
theorem Pk{M:Ag}{x:Row}{b:Nat}(h:b<M.length):(M++[x])[b]?=M[b]?:=List.getElem?_append_left h
theorem aZ{k:Nat}{ι:Emb}{M:Ag}{w:World}{x:Arr}(hk:k≤M.length)(hR:R ι M w):Step k ι M w ι (M++[.row true x]) w:=by
 have lt:=fun {b:Nat} {l:Loc} (h:ι b=some l)=>Xx hR h
 refine Step.make hR (fun b hb=>hR.dom b (by simp at hb;omega)) (fun b l own y h1 h2=>?_) (fun b b' l l' own own' y y' hne h1 h2 h3 h4 ho=>?_) ⟨rfl,rfl,rfl,Nat.le_refl _,fun _ _ _=>rfl,?_⟩ rfl (fun _ _=>rfl) (by simp;omega) (fun b y hb h=>?_) (fun b own y hb h=>?_) (fun b l own y hb h1 h2=>?_)
 ·rw [Pk (lt h1)] at h2;exact hR.rows b l own y h1 h2
 ·rw [Pk (lt h1)] at h3;rw [Pk (lt h2)] at h4;exact hR.inj b b' l l' own own' y y' hne h1 h2 h3 h4 ho
 ·rintro c ⟨b,l,y,h1,h2,h3⟩
  rw [Pk (lt h1)] at h2;exact .inr ⟨b,l,y,h1,h2,h3⟩
 ·rw [Pk O_];exact h
 ·rw [Pk O_] at h;exact ⟨y,h⟩
 ·rw [Pk (lt h1)] at h2;exact .inr (.inr ⟨b,l,own,y,hb,h1,h2,rfl⟩)
def MA(n b:Nat)(ι:Emb):Emb:=⟨fun i=>if i=n then ι b else ι i,ι.tx⟩
theorem ez{ι:Emb}{M:Ag}{w:World}(hR:R ι M w)(b:Nat):ι.le (MA M.length b ι):=by
 refine ⟨fun i l h=>?_,fun _ _ _ h=>h⟩
 have:=Xx hR h
 unfold MA
 dsimp only
 rw [if_neg O_];exact h
theorem iX{k:Nat}{ι:Emb}{M:Ag}{w:World}{b:Nat}{x:Arr}(hk:k≤M.length)(hR:R ι M w)(hb:M[b]?=some (.row true x)):Step k ι M w (MA M.length b ι) (M.set b .dead++[.row true x]) w:=by
 have hbl:b<M.length:=by
  rcases Nat.lt_or_ge b M.length with h1 | h1
  ·exact h1
  ·rw [List.getElem?_eq_none h1] at hb;cases hb
 have e1:∀ {i:Nat},i≠M.length→MA M.length b ι i=ι i:=fun h=>if_neg h
 have e2:MA M.length b ι M.length=ι b:=if_pos rfl
 have src:∀ {i:Nat} {own:Bool} {y:Arr},(M.set b .dead++[.row true x])[i]?=some (.row own y)→(i=M.length∧own=true∧y=x)∨(i<M.length∧i≠b∧M[i]?=some (.row own y)):=by
  intro i own y h
  rcases Nat.lt_trichotomy i M.length with h1 | h1 | h1
  ·right
   rw [List.getElem?_append_left (by simp;exact h1),List.getElem?_set] at h
   by_cases e:b=i
   ·subst e;simp [h1] at h
   ·rw [if_neg e] at h;exact ⟨h1,fun h=>e h.symm,h⟩
  ·left
   subst h1
   rw [List.getElem?_append_right (by simp)] at h
   simp only [List.length_set,Nat.sub_self,List.getElem?_cons_zero,Option.some.injEq,Row.row.injEq] at h
   exact ⟨rfl,h.1.symm,h.2.symm⟩
  ·rw [List.getElem?_eq_none (by simp;omega)] at h;cases h
 have org:∀ {i:Nat} {l:Loc} {own:Bool} {y:Arr},MA M.length b ι i=some l→(M.set b .dead++[.row true x])[i]?=some (.row own y)→ ∃i0,ι i0=some l∧M[i0]?=some (.row own y)∧(i0=i∨(i0=b∧i=M.length)):=by
  intro i l own y h1 h2
  rcases src h2 with ⟨rfl,rfl,rfl⟩ | ⟨h3,h4,h5⟩
  ·rw [e2] at h1;exact ⟨b,h1,hb,.inr ⟨rfl,rfl⟩⟩
  ·rw [e1 O_] at h1;exact ⟨i,h1,h5,.inl rfl⟩
 refine Step.make hR (fun i hi=>?_) (fun i l own y h1 h2=>?_) (fun i i' l l' own own' y y' hne h1 h2 h3 h4 ho=>?_) ⟨rfl,rfl,rfl,Nat.le_refl _,fun _ _ _=>rfl,?_⟩ rfl (fun i hi=>e1 O_) (by simp;omega) (fun i y hi h=>?_) (fun i own y hi h=>?_) (fun i l own y hi h1 h2=>?_)
 ·simp at hi
  rw [e1 O_];exact hR.dom i O_
 ·obtain ⟨i0,h3,h4,_⟩:=org h1 h2
  exact (hR.rows i0 l own y h3 h4).mono (ez hR b)
 ·obtain ⟨j,k1,k2,k3⟩:=org h1 h3
  obtain ⟨j',g1,g2,g3⟩:=org h2 h4
  have hs:=src h3
  have hs':=src h4
  refine hR.inj j j' l l' own own' y y' (fun e=>?_) k1 g1 k2 g2 ho
  subst e
  rcases k3 with k3 | k3<;>rcases g3 with g3 | g3
  ·exact hne O_
  ·rcases hs with hs | hs
   ·have:=Xx hR k1;omega
   ·omega
  ·rcases hs' with hs' | hs'
   ·have:=Xx hR k1;omega
   ·omega
  ·omega
 ·rintro c ⟨i,l,y,h1,h2,h3⟩
  obtain ⟨i0,h4,h5,_⟩:=org h1 h2
  exact .inr ⟨i0,l,y,h4,h5,h3⟩
 ·rw [List.getElem?_append_left (by simp;omega),List.getElem?_set]
  by_cases e:b=i
  ·subst e;rw [hb] at h;cases h
  ·rw [if_neg e];exact h
 ·rcases src h with ⟨h1,_⟩ | ⟨_,_,h1⟩
  ·omega
  ·exact ⟨y,h1⟩
 ·obtain ⟨i0,h3,h4,h5⟩:=org h1 h2
  rcases h5 with rfl | ⟨rfl,rfl⟩
  ·exact .inr (.inr ⟨i0,l,own,y,hi,h3,h4,rfl⟩)
  ·rcases src h2 with ⟨_,rfl,rfl⟩ | ⟨h6,_⟩
   ·exact .inr (.inl ⟨i0,l,y,h3,hb,rfl⟩)
   ·omega
section
variable {P:Program} {k N n:Nat} {c:Code} {T:Nat→AV} {M M':Ag} {Φ:Ex→St→Prop}
theorem NR{ι:Emb}{s s':St}{a:Act}(d:Nat){v:AV}(h:DB ι s a)(hn:s'.n=s.n)(ht:s'.t=upd s.t d v)(hv:∀u,(s.t d).rel ι u→v.rel ι u):DB ι s' a:=by
 refine ⟨h.size.trans hn.symm,fun t=>?_⟩
 rw [ht]
 unfold upd
 split
 ·rename_i e;subst e;exact hv _ (h.rel t)
 ·exact h.rel t
theorem Jn(d sz:Nat)(x:Arr)(_hx:x.size=0)(hd:T d= .c .nsl)(hn:M.length=n)(hM:M++[.row true x]=M')(h:WC P k c ⟨N,upd T d (.c (.sl n 0 0 0 sz)),M'⟩ Φ):WC P k c ⟨N,T,M⟩ Φ:=by
 subst hM;subst hn
 obtain ⟨e,r,h1,h2⟩:=h.h
 refine ⟨⟨e,r,Ev.weak ?_ h1,h2⟩⟩
 intro ι w a hk hR hf
 refine ⟨ι,NR (s:=⟨N,T,M⟩) d hf rfl rfl ?_,aZ hk hR⟩
 intro u hu
 change (T d).rel ι u at hu
 rw [hd] at hu
 change u=_ at hu
 subst hu
 exact ⟨none,0,rfl,Nat.le_refl _,Nat.le_refl _,.inl rfl⟩
theorem mK(d:Nat){b o len cap sz:Nat}{x:Arr}(hd:T d= .c (.sl b o len cap sz))(hb:M[b]?=some (.row true x))(hn:M.length=n)(hM:M.set b .dead++[.row true x]=M')(h:WC P k c ⟨N,upd T d (.c (.sl n o len len sz)),M'⟩ Φ):WC P k c ⟨N,T,M⟩ Φ:=by
 subst hM;subst hn
 obtain ⟨e,r,h1,h2⟩:=h.h
 refine ⟨⟨e,r,Ev.weak ?_ h1,h2⟩⟩
 intro ι w a hk hR hf
 refine ⟨_,NR (s:=⟨N,T,M⟩) d (hf.mono (ez hR b) M) rfl rfl ?_,iX hk hR hb⟩
 intro u hu
 have hu':=hf.rel d
 change (T d).rel _ u at hu
 rw [hd] at hu
 obtain ⟨p,c',rfl,h3,h4,h5⟩:=hu
 refine ⟨p,c',rfl,h4,h4,h5.imp id ?_⟩
 rintro ⟨l,h6,h7⟩
 refine ⟨l,?_,h7⟩
 show (if M.length=M.length then ι b else ι M.length)=some l
 rw [if_pos rfl]
 unfold MA at h6
 dsimp only at h6
 split at h6
 ·exact h6
 ·exact h6
def wl(P:Program)(k:Nat)(c:Code)(Φ:Ex→St→Prop):Ex→St→Prop
 |.normal,s=>WC P k (.loop c) s Φ
 |e,s=>Φ e s
theorem QJ{s:St}(h:WC P k c s (wl P k c Φ)):WC P k (.loop c) s Φ:=by
 obtain ⟨e,r,h1,h2⟩:=h.h
 cases e with
 |normal=>obtain ⟨e',r',h3,h4⟩:=WC.h h2;exact ⟨⟨e',r',Ev.loop h1 h3,h4⟩⟩
 |exit i=>exact ⟨⟨_,r,Ev.loopx h1 (by simp),h2⟩⟩
 |ret=>exact ⟨⟨_,r,Ev.loopx h1 (by simp),h2⟩⟩
end
section
variable {P:Program} {k N:Nat} {ops:Array Oper} {d:Nat} {ty:TypeId} {pos:String} {af:Array Edge} {l0:List Oper} {T:Nat→AV} {M M':Ag} {K:St→Prop} {t t':TypeId} {x y:Operand}
end
theorem Gl{ops:Array Oper}{t:Nat→AV}{o:Oper}{j d:Nat}{want b c:Bool}(hg:o.guard=some (j,want))(hd:(ops[j]?).bind (·.dst)=some d)(ht:t d= .c (.val (.bool b)))(hb:(b==want)=c):B3 ops t o=some c:=by
 simp only [B3,hg,hd,ht,hb]
theorem Zw{ops:Array Oper}{t:Nat→AV}{o:Oper}{j d:Nat}{want:Bool}{y:Array Value}(hg:o.guard=some (j,want))(hd:(ops[j]?).bind (·.dst)=some d)(ht:t d= .c (.val (.tuple y))):B3 ops t o=some false:=by
 simp only [B3,hg,hd,ht]
theorem wQ{p:Prop} [Decidable p] (h:p):(decide p==true)=true:=by simp [h]
theorem xh{p:Prop} [Decidable p] (h:¬p):(decide p==false)=true:=by simp [h]
theorem rM{p:Prop} [Decidable p] (h:p):(decide p==false)=false:=by simp [h]
theorem rf{p:Prop} [Decidable p] (h:¬p):(decide p==true)=false:=by simp [h]
@[simp] theorem nS{α:Type}(u m:List α)(o:Nat):(over u o m).length=min o u.length+m.length+(u.length-(o+m.length)):=by simp [over,Nat.add_assoc]
section
variable {P:Program} {k N:Nat} {ops:Array Oper} {d:Nat} {ty:TypeId} {pos:String} {af:Array Edge} {l0:List Oper} {T:Nat→AV} {M M':Ag} {K:St→Prop} {t t':TypeId}
theorem rD{s x:Operand}{el b0 o len cap b o2 n c m:Nat}{own:Bool}{u r:AB 8}(hs:AC T s= .c (.sl b0 o len cap 1))(hms:M[b0]?=some (.row true (.a8 u)))(hx:AC T x= .c (.sl b o2 n c 1))(hm:M[b]?=some (.row own (.a8 r)))(hu:P.underlying t=some (.slice el))(hz:DN P el=some 1)
  (hlu:o+len≤u.length) (hl:o2+n≤r.length) (hn:min n len=m) (hM:M.set b0 (.row true (.a8 (over u o (cut r o2 m))))=M'):
  CK P (AC T) M (.call { callee:= .builtin .copy,args:= #[s,x],argTypes:= #[t,t'] })=some (.c (.val (.int .i64 ((m:Nat):Int))),M'):=by
 show Tj P M t (AC T s) (AC T x)=_
 subst hM;subst hn
 rw [hs,hx]
 have h1:o2+min n len≤Arr.size (.a8 r):=by simp only [Arr.size];omega
 have h2:o+min n len≤Arr.size (.a8 u):=by simp only [Arr.size];omega
 simp only [Tj,hu,hz,hms,hm,if_true,Nat.zero_lt_one,h1,h2,Arr.win,Arr.one,and_self,Arr.putW,Option.map_some,Nat.mul_one]
theorem fR{s x:Operand}{el b0 o len cap b o2 n c m:Nat}{own:Bool}{u r:AB 8}(hs:AC T s= .c (.sl b0 o len cap 1))(hms:M[b0]?=some (.row true (.a8 u)))(hx:AC T x= .c (.sl b o2 n c 1))(hm:M[b]?=some (.row own (.a8 r)))(hu:P.underlying t=some (.slice el))(hz:DN P el=some 1)
  (hlu:o+len≤u.length) (hl:o2+n≤r.length) (hn:min n len=m) (hM:M.set b0 (.row true (.a8 (over u o (cut r o2 m))))=M') (hd:decide (d<N)=true) (hk:WO P k ops l0 ⟨N,upd T d (.c (.val (.int .i64 ((m:Nat):Int)))),M'⟩ K):
  WO P k ops (⟨some d,.call { callee:= .builtin .copy,args:= #[s,x],argTypes:= #[t,t'] },ty,pos,af,none⟩::l0) ⟨N,T,M⟩ K:=
 QX (rD hs hms hx hm hu hz hlu hl hn hM) hd hk
theorem ae{s x:Operand}{el b0 o len cap b n c m:Nat}{own:Bool}{u r:AB 8}(hs:AC T s= .c (.sl b0 o len cap 1))(hms:M[b0]?=some (.row true (.a8 u)))(hx:AC T x= .c (.sl b 0 n c 1))(hm:M[b]?=some (.row own (.a8 r)))(hu:P.underlying t=some (.slice el))(hz:DN P el=some 1)
  (hlu:o+len≤u.length) (hl:r.length=n) (hn:min n len=m) (he:m=n) (hM:M.set b0 (.row true (.a8 (over u o r)))=M') (hd:decide (d<N)=true) (hk:WO P k ops l0 ⟨N,upd T d (.c (.val (.int .i64 ((m:Nat):Int)))),M'⟩ K):
  WO P k ops (⟨some d,.call { callee:= .builtin .copy,args:= #[s,x],argTypes:= #[t,t'] },ty,pos,af,none⟩::l0) ⟨N,T,M⟩ K:=
 QX (rD hs hms hx hm hu hz hlu O_ hn (by rw [he,HD hl];exact hM)) hd hk
theorem VJ{l:AB 8}{n n' el:Nat}{ps:Array (Nat×Operand)}(hz:(P.info? t).bind (fun i=>i.zero.map (fun z=>Bu z.cells.toList))=some (.a8 (Am n)))(hu:P.underlying t=some (.array n' el))(hs:DN P el=some 1)(h0:(decide (ps.toList.length=n'))=false)
  (hf:HJ (fun i=>some (i*1,1)) (.a8 (Am n)) (ps.toList.map fun p=>(p.1,AC T p.2))=some (.a8 l)):AI P (AC T) M (.build t ps)=some (.agg (.a8 l)):=by
 show Bo P t (ps.toList.map fun p=>(p.1,AC T p.2))=_
 obtain ⟨it,hi,hz2⟩:=Option.bind_eq_some_iff.1 hz
 obtain ⟨z,hz3,hz4⟩:=Option.map_eq_some_iff.1 hz2
 obtain ⟨ie,hie,h1⟩:=Option.map_eq_some_iff.1 hs
 have h9:¬(ie.size=1∧(ps.toList.map fun p=>(p.1,AC T p.2)).length=n'∧z.cells.size=n'):=by
  rintro ⟨_,h,_⟩
  rw [List.length_map] at h
  exact of_decide_eq_false h0 h
 simp only [Bo,hi,hu,hz3,hie]
 rw [if_neg h9]
 simp only [hz4,h1,hf,Option.map_some]
theorem ol{l:AB 32}{n n' el:Nat}{ps:Array (Nat×Operand)}(hz:(P.info? t).bind (fun i=>i.zero.map (fun z=>Bu z.cells.toList))=some (.a32 (Nc n)))(hu:P.underlying t=some (.array n' el))(hs:DN P el=some 1)(h0:(decide (ps.toList.length=n'))=false)
  (hf:HJ (fun i=>some (i*1,1)) (.a32 (Nc n)) (ps.toList.map fun p=>(p.1,AC T p.2))=some (.a32 l)):AI P (AC T) M (.build t ps)=some (.agg (.a32 l)):=by
 show Bo P t (ps.toList.map fun p=>(p.1,AC T p.2))=_
 obtain ⟨it,hi,hz2⟩:=Option.bind_eq_some_iff.1 hz
 obtain ⟨z,hz3,hz4⟩:=Option.map_eq_some_iff.1 hz2
 obtain ⟨ie,hie,h1⟩:=Option.map_eq_some_iff.1 hs
 have h9:¬(ie.size=1∧(ps.toList.map fun p=>(p.1,AC T p.2)).length=n'∧z.cells.size=n'):=by
  rintro ⟨_,h,_⟩
  rw [List.length_map] at h
  exact of_decide_eq_false h0 h
 simp only [Bo,hi,hu,hz3,hie]
 rw [if_neg h9]
 simp only [hz4,h1,hf,Option.map_some]
theorem pC{l:AB 64}{n n' el:Nat}{ps:Array (Nat×Operand)}(hz:(P.info? t).bind (fun i=>i.zero.map (fun z=>Bu z.cells.toList))=some (.a64 (Af n)))(hu:P.underlying t=some (.array n' el))(hs:DN P el=some 1)(h0:(decide (ps.toList.length=n'))=false)
  (hf:HJ (fun i=>some (i*1,1)) (.a64 (Af n)) (ps.toList.map fun p=>(p.1,AC T p.2))=some (.a64 l)):AI P (AC T) M (.build t ps)=some (.agg (.a64 l)):=by
 show Bo P t (ps.toList.map fun p=>(p.1,AC T p.2))=_
 obtain ⟨it,hi,hz2⟩:=Option.bind_eq_some_iff.1 hz
 obtain ⟨z,hz3,hz4⟩:=Option.map_eq_some_iff.1 hz2
 obtain ⟨ie,hie,h1⟩:=Option.map_eq_some_iff.1 hs
 have h9:¬(ie.size=1∧(ps.toList.map fun p=>(p.1,AC T p.2)).length=n'∧z.cells.size=n'):=by
  rintro ⟨_,h,_⟩
  rw [List.length_map] at h
  exact of_decide_eq_false h0 h
 simp only [Bo,hi,hu,hz3,hie]
 rw [if_neg h9]
 simp only [hz4,h1,hf,Option.map_some]
end
attribute [simp] Cg
theorem AN{p:Prop}(h:p:=by first | exact (rfl:_=0) | exact (rfl:_=1) | exact (rfl:_=2) | exact (rfl:_=3) | exact (rfl:_=4) | exact (rfl:_=5) | exact (rfl:_=6) | exact (rfl:_=7) | exact (rfl:_=8) | exact (rfl:_=9) | exact (rfl:_=10) | exact (rfl:_=11) | exact (rfl:_=12)):p:=h
theorem AK{p:Prop}(h:p:=by first | exact (rfl:_=[]) | exact (rfl:_=[_]) | exact (rfl:_=[_,_]) | exact (rfl:_=[_,_,_]) | exact (rfl:_=[_,_,_,_]) | exact (rfl:_=[_,_,_,_,_]) | exact (rfl:_=[_,_,_,_,_,_]) | exact (rfl:_=[_,_,_,_,_,_,_]) | exact (rfl:_=[_,_,_,_,_,_,_,_]) | exact (rfl:_=[_,_,_,_,_,_,_,_,_]) | exact (rfl:_=[_,_,_,_,_,_,_,_,_,_]) | exact (rfl:_=[_,_,_,_,_,_,_,_,_,_,_]) | exact (rfl:_=[_,_,_,_,_,_,_,_,_,_,_,_]) | exact (rfl:_=[_,_,_,_,_,_,_,_,_,_,_,_,_]) | exact (rfl:_=[_,_,_,_,_,_,_,_,_,_,_,_,_,_]) | exact (rfl:_=[_,_,_,_,_,_,_,_,_,_,_,_,_,_,_]) | exact (rfl:_=[_,_,_,_,_,_,_,_,_,_,_,_,_,_,_,_]) | exact (rfl:_=[_,_,_,_,_,_,_,_,_,_,_,_,_,_,_,_,_]) | exact (rfl:_=[_,_,_,_,_,_,_,_,_,_,_,_,_,_,_,_,_,_]) | exact (rfl:_=[_,_,_,_,_,_,_,_,_,_,_,_,_,_,_,_,_,_,_]) | exact (rfl:_=[_,_,_,_,_,_,_,_,_,_,_,_,_,_,_,_,_,_,_,_]) | exact (rfl:_=[_,_,_,_,_,_,_,_,_,_,_,_,_,_,_,_,_,_,_,_,_]) | exact (rfl:_=[_,_,_,_,_,_,_,_,_,_,_,_,_,_,_,_,_,_,_,_,_,_])):p:=h
theorem Rx{p:Prop}(h:p:=by show _≤List.length _;first | omega | (simp only [Bp];omega) | (simp only [BO];omega)):p:=h
theorem Hn{p:Prop}(h:p:=by first | assumption | omega | rfl | (simp only [Bp];first | assumption | omega) | (simp only [List.length_append];omega) | (simp;done) | (simp [*];done) | (simp [*];omega)):p:=h
theorem Wo{p:Prop}(h:p:=by first | omega | (simp only [Bp];omega) | (simp;done) | (simp;omega) | (simp [*];done) | (simp [*];omega)):p:=h
theorem Bb{p:Prop}(h:p:=by first | exact (rfl:_=AV.c (.val _)) | exact (rfl:_=AV.agg (.a64 _)) | exact (rfl:_=AV.agg (.a8 _)) | exact (rfl:_=AV.agg (.a32 _)) | exact (rfl:_=AV.c .nsl) | exact (rfl:_=AV.c (.sl 0 _ _ _ _)) | exact (rfl:_=AV.c (.sl 1 _ _ _ _)) | exact (rfl:_=AV.c (.sl 2 _ _ _ _)) | exact (rfl:_=AV.c (.sl 3 _ _ _ _)) | exact (rfl:_=AV.c (.sl 4 _ _ _ _)) | exact (rfl:_=AV.c (.sl 5 _ _ _ _)) | exact (rfl:_=AV.c (.sl 6 _ _ _ _)) | exact (rfl:_=AV.c (.sl 7 _ _ _ _)) | exact (rfl:_=AV.c (.sl 8 _ _ _ _)) | exact (rfl:_=AV.c (.sl 9 _ _ _ _)) | exact rfl):p:=h
theorem Dp{p:Prop}(h:p:=by first | omega | (simp only [Bp];omega) | (simp only [JD];omega) | (simp only [BO];omega) | (simp only [MV];omega) | (simp only [Nf];omega) | (simp only [ax];omega) | (simp only [ah];omega) | (simp only [Arr.size,List.length_cons,List.length_nil];omega) | (simp only [List.length_cons,List.length_nil];omega) | decide):p:=h
theorem C7{p:Prop}(h:p:=by first | (simp only [Arr.size,List.length_cons,List.length_nil,Nat.reduceAdd];done) | (simp only [Arr.size,JD,MV,BO,Nf];done) | (show List.length _=_;first | assumption | omega | (simp only [Bp];first | assumption | omega) | (simp only [S3,List.length_map];first | assumption | omega) | (simp;done) | (simp;assumption) | (simp;omega) | rfl | simp only [JD] | simp only [BO] | simp only [MV] | simp only [Nf])):p:=h
theorem WR_{p:Prop}(h:p:=by first | exact nY _ _ _ | exact sc _ _ _ | exact rU _ _ _ | exact ud _ _ _ | exact zK _ _ _):p:=h
theorem vh{p:Prop}(h:p:=by first | rfl):p:=h
theorem AD{p:Prop}(h:p:=by first | omega | (simp;done) | (simp [*];done) | (simp [*];omega) | assumption):p:=h
theorem Au{p:Prop}(h:p:=by first | (simp;done) | (simp [*];done) | (simp [*];omega) | rfl):p:=h
theorem yh{p:Prop}(h:p:=by first | rfl | omega | (rw [Nat.min_eq_left O_]) | (rw [Nat.min_eq_right O_])):p:=h
theorem gn{p:Prop}(h:p:=by first | rfl | assumption | (apply decide_eq_true;omega) | (apply decide_eq_false;omega) | (rw [Bool.not_eq_true',decide_eq_false_iff_not];omega) | (rw [Bool.not_eq_false',decide_eq_true_eq];omega) | (simp [*];done) | (simp;omega)):p:=h
theorem Vh{p:Prop}(h:p:=by first | rfl | exact Zw rfl rfl rfl | exact Gl rfl rfl rfl (by first | rfl | exact wQ O_ | exact xh O_ | exact rM O_ | exact rf O_ | (simp [*];done))):p:=h
theorem aK{n:Nat}:(!decide (n=n))=false:=by simp
structure Hid(r:Prop):Prop where
 out:r
theorem S_{g r:Prop}(k:r) (h:Hid r→g:=by
 intro h
 repeat (first
  |refine rr ?_
  |refine fo ?_
  |refine ng ?_
  |refine tu ?_
  |refine wj ?_
  |refine fh ?_
  |refine gC ?_
  |refine EH rfl (by first | rfl | (apply decide_eq_true;omega) | (rw [Bool.not_eq_true',decide_eq_false_iff_not];omega)) ?_
  |refine Bn rfl (by first | rfl | (apply decide_eq_false;omega) | (rw [Bool.not_eq_false',decide_eq_true_eq];omega) | exact aK) ?_)
 exact h.out):g:=h ⟨k⟩
theorem Q_{g r:Prop}(k:r) (h:Hid r→g:=by
 intro h
 repeat (first
  |refine rr ?_
  |refine fo ?_
  |refine ng ?_
  |refine fh ?_
  |refine gC ?_)
 exact h.out):g:=h ⟨k⟩
def oX:Nat→Nat
 |0=>0
 |_+1=>32
@[simp] theorem xz:oX 0=0:=rfl
@[simp] theorem wR(j:Nat):oX (j+1)=32:=rfl
theorem kQ(j:Nat):oX j≤32:=by cases j<;>simp
section
variable {P:Program} {k N:Nat} {ops:Array Oper} {d:Nat} {ty:TypeId} {pos:String} {af:Array Edge} {l0:List Oper} {T:Nat→AV} {M M':Ag} {K:St→Prop} {t t':TypeId}
theorem qZ{v:BitVec 64}{i n n' el:Nat}{x:Operand}(hz:(P.info? t).bind (fun i=>i.zero.map (fun z=>Bu z.cells.toList))=some (.a64 (Af n)))(hu:P.underlying t=some (.array n' el))(hs:DN P el=some 1)(h0:(decide (1=n'))=false)(hi:decide (i<n)=true)(hx:AC T x= .c (.val (BP v))):
  AI P (AC T) M (.build t #[(i,x)])=some (.agg (.a64 (put (Af n) i v))):=by
 refine pC hz hu hs h0 ?_;have h1:i<Arr.size (.a64 (Af n)):=by simp only [Arr.size,JD];exact of_decide_eq_true hi
 have h2:(Cell.val (BP v)).one=true:=rfl
 simp only [List.map_cons,List.map_nil,HJ,hx,h1,h2,and_self,if_true,Arr.set,av,Option.map_some,Option.bind_some,Nat.mul_one]
theorem Ft{x:Operand}{b o:Nat}(hx:AC T x= .c (.ptr b o)):AI P (AC T) M (.nilCheck x)=some (.c (.ptr b o)):=by
 simp only [AI,hx]
theorem uq{n:Nat}{s:St}{v:AV}{m':Ag}{e:Ex}(he:e= .ret∨e= .normal)(hc:iy n (.tup []) s.m=some ([v],m')):Vt P n [] v m' e s:=by
 obtain ⟨ids,h⟩:=Of hc
 rcases he with rfl | rfl
 ·exact ⟨[],ids,by simp [F9],h⟩
 ·exact ⟨[],ids,by simp [F9],h⟩
theorem ra(l:AB 8)(o n:Nat):F1 (.a8 l) o n= .a8 (cut l o n):=by
 unfold F1
 split
 ·rename_i h
  obtain ⟨rfl,h⟩:=h
  rw [HD (show l.length=n from h.symm)]
 ·rfl
theorem sw(l:AB 64)(o n:Nat):F1 (.a64 l) o n= .a64 (cut l o n):=by
 unfold F1
 split
 ·rename_i h
  obtain ⟨rfl,h⟩:=h
  rw [HD (show l.length=n from h.symm)]
 ·rfl
theorem Qf{t:TypeId}{a:Operand}{b n o:Nat}{own:Bool}{l:AB 8}(ha:AC T a= .c (.ptr b o))(hm:M[b]?=some (.row own (.a8 l)))(hr:A5 P t=some true)(hs:DN P t=some n)(hx:o+n≤l.length)(h0:0<n):AI P (AC T) M (.load t a)=some (.agg (.a8 (cut l o n))):=by
 have hx':o+n≤Arr.size (.a8 l):=hx
 simp only [AI,ha,hm,Eu,hr,hs,hx',h0,and_self,if_true,ra]
theorem WM{t:TypeId}{a:Operand}{b n o:Nat}{own:Bool}{l:AB 64}(ha:AC T a= .c (.ptr b o))(hm:M[b]?=some (.row own (.a64 l)))(hr:A5 P t=some true)(hs:DN P t=some n)(hx:o+n≤l.length)(h0:0<n):AI P (AC T) M (.load t a)=some (.agg (.a64 (cut l o n))):=by
 have hx':o+n≤Arr.size (.a64 l):=hx
 simp only [AI,ha,hm,Eu,hr,hs,hx',h0,and_self,if_true,sw]
theorem rE{cs:List Cell}{x:Arr}{el by' len n:Nat}{ps:Array (Nat×Operand)}(hu:P.underlying t=some (.slice el))(he:Bh P el=some (1,by'))(hr:Iq P el len=some x)(hd:EP 0 (ps.toList.map fun p=>(p.1,AC T p.2))=none)(hf:HJ (fun i=>some (i*1,1)) x (ps.toList.map fun p=>(p.1,AC T p.2))=some (.ac cs))(h0:¬len=0)(h1:len≤16777216)(hn:M.length=n):
  CK P (AC T) M (.buildSlice t len ps)=some (.c (.sl n 0 len len 1),M++[.row true (.ac cs)]):=by
 show Ca P M t len (ps.toList.map fun p=>(p.1,AC T p.2))=_
 subst hn
 have e:(if True∧(ps.toList.map fun p=>(p.1,AC T p.2)).length=len then EP 0 (ps.toList.map fun p=>(p.1,AC T p.2)) else none)=none:=by split<;>(first | exact hd | rfl)
 simp only [Ca,hu,he,Nat.mul_one]
 rw [if_neg h0,if_pos h1,e]
 simp only [Nat.mul_one] at hf
 simp only [hr,hf]
theorem ZW{P:Program}{t e n:Nat}{k:IntKind}{x y:Arr}{r:Bool}(hu:P.underlying t=some (.array n e))(he:P.underlying e=some (.int k))(hs:DN P e=some 1)(hx:x.size=n)(hy:y.size=n)(hr:x.alike y=some r):aV P t x y=some r:=by
 unfold DN at hs
 obtain ⟨i,hi,h1⟩:=Option.map_eq_some_iff.1 hs
 have hc:P.cellsOf e=1:=by simp [Program.cellsOf,hi,h1]
 have hg:P.eqGuardType P.depth t=false:=by
  show P.eqGuardType (2*(P.types.size+Made.depth)+1+1) t=false
  unfold Program.eqGuardType
  simp only [hu]
  unfold Program.eqGuardType
  simp only [he]
 unfold aV
 simp only [hu,he,hi,hc,hg,hx,hy,true_and,if_true,hr]
theorem fW{x y:Operand}{l m:AB 8}{n e:Nat}(hx:AC T x= .agg (.a8 l))(hy:AC T y= .agg (.a8 m))(hu:P.underlying t=some (.array n e))(he:P.underlying e=some (.int .u8))(hs:DN P e=some 1)(hl:l.length=n)(hm:m.length=n):
  AI P (AC T) M (.binOp .eql t x y t')=some (.c (.val (.bool (decide (l=m))))):=by
 show NC P .eql t x y (AC T x) (AC T y)=_
 rw [hx,hy]
 simp only [NC,ZW hu he hs (x:= .a8 l) (y:= .a8 m) (r:=decide (l=m)) hl hm rfl]
theorem Yu{x y:Operand}{l m:AB 8}{n e:Nat}(hx:AC T x= .agg (.a8 l))(hy:AC T y= .agg (.a8 m))(hu:P.underlying t=some (.array n e))(he:P.underlying e=some (.int .u8))(hs:DN P e=some 1)(hl:l.length=n)(hm:m.length=n):
  AI P (AC T) M (.binOp .neq t x y t')=some (.c (.val (.bool (!decide (l=m))))):=by
 show NC P .neq t x y (AC T x) (AC T y)=_
 rw [hx,hy]
 simp only [NC,ZW hu he hs (x:= .a8 l) (y:= .a8 m) (r:=decide (l=m)) hl hm rfl]
end
theorem CS_{p:Prop}(h:p:=by first | exact (rfl:_=some (Arr.ac [_])) | exact (rfl:_=some (Arr.ac [_,_])) | exact (rfl:_=some (Arr.ac [_,_,_])) | exact (rfl:_=some (Arr.ac [_,_,_,_])) | exact (rfl:_=some (Arr.ac [_,_,_,_,_])) | exact (rfl:_=some (Arr.ac [_,_,_,_,_,_]))):p:=h
theorem cF{P:Program}{T:Nat→AV}{M:Ag}{op:Op}{b c:Bool}(h:AI P (AC T) M op=some (.c (.val (.bool b))))(hb:b=c):AI P (AC T) M op=some (.c (.val (.bool c))):=by rw [←hb];exact h
theorem Ab{P:Program}{T:Nat→AV}{M:Ag}{t f:Nat}{x:Operand}{b o:Nat}{v:AV}(hx:AC T x= .c (.ptr b o))(hf:BK P t (.c (.ptr b o)) f=some v):AI P (AC T) M (.fieldAddr t x f)=some v:=by
 show BK P t (AC T x) f=some v
 rw [hx];exact hf
def YE(P:Program)(t:TypeId):Option (List (Nat×Nat)):=
 match P.underlying t with
 |some (.struct fields)=>fields.toList.mapM fun f=>(P.info? f.type).map fun i=>(f.offset,i.size)
 |_=>none
theorem Ng{P:Program}{t:TypeId}{x:Arr}{places:List (Nat×Nat)}(hz:(P.info? t).bind (fun i=>i.zero.map fun z=>Bu z.cells.toList)=some x)(hp:YE P t=some places)(parts:List (Nat×AV)):
  Bo P t parts=(HJ (places.toArray[·]?) x parts).map .agg:=by
 obtain ⟨i,hi,hz2⟩:=Option.bind_eq_some_iff.1 hz
 obtain ⟨z,hz3,hz4⟩:=Option.map_eq_some_iff.1 hz2
 unfold YE at hp
 split at hp
 ·rename_i fields hu
  unfold Bo
  simp only [hi,hu,hz3,hp,hz4]
 ·cases hp
theorem Ww{P:Program}{t:TypeId}{x:Arr}(hz:(P.info? t).bind (fun i=>i.zero.map fun z=>Bu z.cells.toList)=some x)(hp:(YE P t).isSome=true):Bo P t []=some (.agg x):=by
 obtain ⟨places,h⟩:=Option.isSome_iff_exists.1 hp
 rw [Ng hz h]
 rfl
theorem cg{P:Program}{T:Nat→AV}{M:Ag}{t:Nat}{v:AV}(h:Bo P t []=some v):AI P (AC T) M (.build t #[])=some v:=h
theorem O1{α:Type}(p q r m:List α)(n:Nat)(hn:p.length=n)(h:q.length=m.length):over (p++(q++r)) n m=p++(m++r):=by
 subst hn
 unfold over
 rw [List.take_left',List.append_assoc]
 ·congr 2
  rw [←List.append_assoc,List.drop_left']
  rw [List.length_append,h]
 ·rfl
theorem Ob{pl:Nat→Option (Nat×Nat)}{i o n:Nat}{l a:AB 64}{rest:List (Nat×AV)}(h:pl i=some (o,n))(ha:a.length=n)(hl:o+n≤l.length):HJ pl (.a64 l) ((i,.agg (.a64 a))::rest)=HJ pl (.a64 (over l o a)) rest:=by
 subst ha
 have e:a.length=Arr.size (.a64 a)∧o+Arr.size (.a64 a)≤Arr.size (.a64 l):=⟨rfl,hl⟩
 simp only [HJ,h]
 rw [if_pos e]
 rfl
theorem jB{pl:Nat→Option (Nat×Nat)}{n:Nat}{a b c d:AB 64}(h0:pl 0=some (0,n))(h1:pl 1=some (n,n))(h2:pl 2=some (n+n,n))(h3:pl 3=some (n+n+n,n))(ha:a.length=n)(hb:b.length=n)(hc:c.length=n)(hd:d.length=n):
  HJ pl (.a64 (Af (n+n+n+n))) [(0,.agg (.a64 a)),(1,.agg (.a64 b)),(2,.agg (.a64 c)),(3,.agg (.a64 d))]=some (.a64 (a++b++c++d)):=by
 have z:Af (n+n+n+n)=[]++(Af n++(Af n++(Af n++Af n))):=by
  unfold Af
  rw [List.nil_append,List.replicate_append_replicate,List.replicate_append_replicate,List.replicate_append_replicate]
  congr 1
  omega
 have lz:(Af n).length=n:=by simp
 rw [z,Ob h0 ha (by simp only [List.length_append,List.length_nil,lz];omega),O1 [] (Af n) _ a 0 rfl (by rw [lz,ha]),List.nil_append]
 rw [Ob h1 hb (by simp only [List.length_append,lz,ha];omega),O1 a (Af n) _ b n ha (by rw [lz,hb]),←List.append_assoc a b]
 rw [Ob h2 hc (by simp only [List.length_append,lz,ha,hb];omega),O1 (a++b) (Af n) _ c (n+n) (by rw [List.length_append,ha,hb]) (by rw [lz,hc]),←List.append_assoc (a++b) c]
 rw [Ob h3 hd (by simp only [List.length_append,lz,ha,hb,hc];omega)]
 have:=O1 (a++b++c) (Af n) [] d (n+n+n) (by rw [List.length_append,List.length_append,ha,hb,hc]) (by rw [lz,hd])
 rw [List.append_nil,List.append_nil] at this
 rw [this]
 rfl
theorem oS{P:Program}{T:Nat→AV}{M:Ag}{t:Nat}{x0 x1 x2 x3:Operand}{a b c d:AB 64}{v:AV}(h0:AC T x0= .agg (.a64 a))(h1:AC T x1= .agg (.a64 b))(h2:AC T x2= .agg (.a64 c))(h3:AC T x3= .agg (.a64 d))
  (h:Bo P t [(0,.agg (.a64 a)),(1,.agg (.a64 b)),(2,.agg (.a64 c)),(3,.agg (.a64 d))]=some v):AI P (AC T) M (.build t #[(0,x0),(1,x1),(2,x2),(3,x3)])=some v:=by
 show Bo P t [(0,AC T x0),(1,AC T x1),(2,AC T x2),(3,AC T x3)]=some v
 rw [h0,h1,h2,h3];exact h
def KQ(ι:Emb)(w:World)(b:Nat):Emb:=⟨ι.f,fun c o v=>ι.tx c o v∨ ∃l,ι b=some l∧c=l.c∧ ∃cs t fr,w.heap[c]?=some (.cells cs t fr)∧cs[o]?=some v⟩
theorem YC(ι:Emb)(w:World)(b:Nat):ι.le (KQ ι w b):=⟨fun _ _ h=>h,fun _ _ _ h=> .inl h⟩
theorem Oc{k:Nat}{ι:Emb}{M:Ag}{w:World}{b:Nat}{x:Arr}(hk:k≤M.length)(hR:R ι M w)(hm:M[b]?=some (.row true x)):Step k ι M w (KQ ι w b) (M.set b .dead) w:=by
 have src:∀ {i:Nat} {own:Bool} {y:Arr},(M.set b .dead)[i]?=some (.row own y)→i≠b∧M[i]?=some (.row own y):=fun {i own y} h=>by
  rcases CI h with ⟨h1,h2⟩ | ⟨_,h2⟩
  ·exact ⟨h1,h2⟩
  ·cases h2
 refine ⟨⟨fun i hi=>hR.dom i (by simpa using hi),fun i l own y h1 h2=>?_,fun i i' l l' own own' y y' hne h1 h2 h3 h4 ho=>?_,fun c Φ hc=>?_⟩,⟨rfl,rfl,rfl,Nat.le_refl _,fun _ _ _=>rfl,fun c hc=>?_⟩,fun _ _ _ h=> .inl h,fun c o v hc=>?_,fun _ _=>rfl,by simpa using hk,fun i y hi h=>?_,fun i own y hi h=>⟨y,(src h).2⟩,fun i l own y hi h1 h2=> .inr (.inr ⟨i,l,own,y,hi,h1,(src h2).2,rfl⟩)⟩
 ·exact (hR.rows i l own y h1 (src h2).2).mono (YC ι w b)
 ·exact hR.inj i i' l l' own own' y y' hne h1 h2 (src h3).2 (src h4).2 ho
 ·have keep:∀ {Ψ:Obj→Prop},IP ι c Ψ→(∃ob,w.heap[c]?=some ob∧Ψ ob)∧ ∀i l y,(KQ ι w b) i=some l→(M.set b .dead)[i]?=some (.row true y)→l.c≠c:=fun k=>⟨(hR.stay c _ k).1,fun i l y h1 h2=>(hR.stay c _ k).2 i l y h1 (src h2).2⟩
  cases hc with
  |base k=>exact keep (.base k)
  |tx hc=>
   rcases hc with hc | ⟨l,hl,rfl,hcs⟩
   ·exact keep (.tx hc)
   ·obtain ⟨cs,t,fr,h1,h2⟩:=hcs
    refine ⟨⟨_,h1,cs,t,fr,rfl,h2⟩,fun i l' y h3 h4=>?_⟩
    obtain ⟨h5,h6⟩:=src h4
    exact hR.inj i b l' l true true y x h5 h3 hl h6 hm (.inl rfl)
 ·obtain ⟨i,l,y,h1,h2,rfl⟩:=hc
  exact .inr ⟨i,l,y,h1,(src h2).2,rfl⟩
 ·rcases hc with hc | ⟨l,hl,rfl,_⟩
  ·exact .inl hc
  ·exact .inr (.inr ⟨b,l,x,hl,hm,rfl⟩)
 ·rw [List.getElem?_set_ne (fun e=>by subst e;rw [hm] at h;cases h)];exact h
theorem aN{ι:Emb}{M:Ag}{w:World}{b o len cap:Nat}{x:Arr}(hR:R ι M w)(hm:M[b]?=some (.row true x))(hx:x.isMap=false)(ho:o+len≤x.size){g:Nat→Value}(hg:∀i u,i<len→(x.get (o+i)).rel ι u→u=g i){v:Value}(hv:Cell.rel ι (.sl b o len cap 1) v):Cc (KQ ι w b) g len v:=by
 obtain ⟨p,cap',rfl,_,h2,h3⟩:=hv
 refine ⟨p,cap',rfl,h2,?_⟩
 rcases h3 with h3 | ⟨l,hl,rfl,h4⟩
 ·exact .inl h3
 ·by_cases h0:cap'=0
  ·exact .inl h0
  ·obtain ⟨cs,t,fr,k1,k2,k3,k4⟩:=hR.cells hl hm hx
   obtain ⟨_,k5⟩:=k4 rfl
   have hlt:l.off<cs.size:=by omega
   refine .inr ⟨l.c,l.off+o,rfl,⟨l.off,cs[l.off],.inr ⟨l,hl,rfl,cs,t,fr,k1,by simp [hlt]⟩⟩,fun i hi=>?_⟩
   obtain ⟨u,e1,e2⟩:=k3 (o+i) O_
   obtain rfl:=hg i u hi e2
   exact .inr ⟨l,hl,rfl,cs,t,fr,k1,by rw [Nat.add_assoc];exact e1⟩
theorem iM{ι:Emb}{M:Ag}{w:World}{b o len cap:Nat}{x:AB 8}(hR:R ι M w)(hm:M[b]?=some (.row true (.a8 x)))(ho:o+len≤x.length){v:Value}(hv:Cell.rel ι (.sl b o len cap 1) v):Cell.rel (KQ ι w b) (.bs (cut x o len)) v:=by
 have hl:(cut x o len).length=len:=by rw [Cg];omega
 show Cc _ _ (cut x o len).length v
 rw [hl]
 refine aN hR hm rfl ho (fun i u hi h=>?_) hv
 rw [show nth (cut x o len) i=nth x (o+i) from Om x o len i _ hi]
 exact h
theorem jC{ι:Emb}{M:Ag}{w:World}{b o len cap:Nat}{x:List Int}(hR:R ι M w)(hm:M[b]?=some (.row true (.ai x)))(ho:o+len≤x.length){v:Value}(hv:Cell.rel ι (.sl b o len cap 1) v):Cell.rel (KQ ι w b) (.is (cut x o len)) v:=by
 have hl:(cut x o len).length=len:=by rw [Cg];omega
 show Cc _ _ (cut x o len).length v
 rw [hl]
 refine aN hR hm rfl ho (fun i u hi h=>?_) hv
 rw [show (cut x o len).getD i 0=x.getD (o+i) 0 from Om x o len i _ hi]
 exact h
theorem Ev.opPost{P:Program}{op:Op}{e:Operand→AV}{m M1 M2:Ag}{v v':AV}(h:Ev P (.op op e m) (.val v M1))(hp:∀(ι:Emb) (w:World) (u:Value),m.length≤M1.length→R ι M1 w→v.rel ι u→ ∃ι',v'.rel ι' u∧Step m.length ι M1 w ι' M2 w):Ev P (.op op e m) (.val v' M2):=by
 refine Ev.sem fun O ι w ρ hO hR hρ=>?_
 rcases sound h O ι w ρ hO hR hρ with ⟨u,w',ι',hr,hv,hst⟩ | ⟨f,args,hr,hc⟩
 ·obtain ⟨ι2,g1,g2⟩:=hp ι' w' u hst.len hst.r hv
  exact .inl ⟨u,w',ι2,hr,g1,hst.comp g2⟩
 ·refine .inr ⟨f,args,hr,hc.mono fun e' w' ⟨u,ι',he,hv,hst⟩=>?_⟩
  obtain ⟨ι2,g1,g2⟩:=hp ι' w' u hst.len hst.r hv
  exact ⟨u,ι2,he,g1,hst.comp g2⟩
theorem Wd{ι:Emb}{M:Ag}{w:World}{b n cap:Nat}{x:AB 8}(hR:R ι M w)(hm:M[b]?=some (.row true (.a8 x)))(hn:x.length=n){v:Value}(hv:Cell.rel ι (.sl b 0 n cap 1) v):Cell.rel (KQ ι w b) (.bs x) v:=by
 have:=iM hR hm O_ hv
 rwa [HD hn] at this
theorem WD{ι:Emb}{M:Ag}{w:World}{b n cap:Nat}{x:List Int}(hR:R ι M w)(hm:M[b]?=some (.row true (.ai x)))(hn:x.length=n){v:Value}(hv:Cell.rel ι (.sl b 0 n cap 1) v):Cell.rel (KQ ι w b) (.is x) v:=by
 have:=jC hR hm O_ hv
 rwa [HD hn] at this
section
variable {P:Program} {op:Op} {e:Operand→AV} {m M1 M2:Ag} {b n cap:Nat} {r:List AV}
theorem qG{x:AB 8}(h:Ev P (.op op e m) (.val (.c (.sl b 0 n cap 1)) M1))(hm:M1[b]?=some (.row true (.a8 x)))(hn:x.length=n)(hM:M1.set b .dead=M2):Ev P (.op op e m) (.val (.c (.bs x)) M2):=by
 subst hM
 exact Ev.opPost h fun ι w u hk hR hv=>⟨_,Wd hR hm hn hv,Oc hk hR hm⟩
theorem po{x:List Int}(h:Ev P (.op op e m) (.val (.c (.sl b 0 n cap 1)) M1))(hm:M1[b]?=some (.row true (.ai x)))(hn:x.length=n)(hM:M1.set b .dead=M2):Ev P (.op op e m) (.val (.c (.is x)) M2):=by
 subst hM
 exact Ev.opPost h fun ι w u hk hR hv=>⟨_,WD hR hm hn hv,Oc hk hR hm⟩
end
section
variable {P:Program} {k N:Nat} {c:Code} {T:Nat→AV} {M M':Ag} {Φ:Ex→St→Prop}
theorem IB(d:Nat){b n cap:Nat}{x:AB 8}(hd:T d= .c (.sl b 0 n cap 1))(hb:M[b]?=some (.row true (.a8 x)))(hn:x.length=n)(hM:M.set b .dead=M')(h:WC P k c ⟨N,upd T d (.c (.bs x)),M'⟩ Φ):WC P k c ⟨N,T,M⟩ Φ:=by
 subst hM
 obtain ⟨e,r,h1,h2⟩:=h.h
 refine ⟨⟨e,r,Ev.weak ?_ h1,h2⟩⟩
 intro ι w a hk hR hf
 refine ⟨_,NR (s:=⟨N,T,M⟩) d (hf.mono (YC ι w b) M) rfl rfl ?_,Oc hk hR hb⟩
 intro u hu
 have hu':=hf.rel d
 change (T d).rel _ u at hu
 rw [hd] at hu
 obtain ⟨p,c',rfl,h3,h4,h5⟩:=hu
 exact Wd hR hb hn ⟨p,c',rfl,h3,h4,h5⟩
theorem pS(d:Nat){b n cap:Nat}{x:List Int}(hd:T d= .c (.sl b 0 n cap 1))(hb:M[b]?=some (.row true (.ai x)))(hn:x.length=n)(hM:M.set b .dead=M')(h:WC P k c ⟨N,upd T d (.c (.is x)),M'⟩ Φ):WC P k c ⟨N,T,M⟩ Φ:=by
 subst hM
 obtain ⟨e,r,h1,h2⟩:=h.h
 refine ⟨⟨e,r,Ev.weak ?_ h1,h2⟩⟩
 intro ι w a hk hR hf
 refine ⟨_,NR (s:=⟨N,T,M⟩) d (hf.mono (YC ι w b) M) rfl rfl ?_,Oc hk hR hb⟩
 intro u hu
 change (T d).rel _ u at hu
 rw [hd] at hu
 obtain ⟨p,c',rfl,h3,h4,h5⟩:=hu
 exact WD hR hb hn ⟨p,c',rfl,h3,h4,h5⟩
theorem No(d:Nat)(hd:T d= .c .nsl)(h:WC P k c ⟨N,upd T d (.c (.bs [])),M⟩ Φ):WC P k c ⟨N,T,M⟩ Φ:=by
 obtain ⟨e,r,h1,h2⟩:=h.h
 refine ⟨⟨e,r,Ev.weak ?_ h1,h2⟩⟩
 intro ι w a hk hR hf
 refine ⟨ι,NR (s:=⟨N,T,M⟩) d hf rfl rfl ?_,Step.refl hR hk⟩
 intro u hu
 change (T d).rel ι u at hu
 rw [hd] at hu
 change u=_ at hu
 subst hu
 exact ⟨none,0,rfl,Nat.le_refl _,.inl rfl⟩
end
end Go.Proofs.YtmbepikkgkcgkaaGreatDoor
