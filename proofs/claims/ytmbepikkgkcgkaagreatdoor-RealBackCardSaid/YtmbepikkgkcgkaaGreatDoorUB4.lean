/- Merged and shortened by a program: part 4. -/
import Derived.Test.YtmbepikkgkcgkaaGreatDoorUB3
set_option maxRecDepth 100000
set_option maxHeartbeats 8000000
namespace Go.Proofs.YtmbepikkgkcgkaaGreatDoor
open Go.RowKit
variable {g r : Prop}
open Go.Proofs.Tryz
theorem QV.rel{m':Ak}{w:World}{ι:Emb}(hR:R ι m' w)(hro:gj m'=true){fs:List Nat}{l l':List AV}(h:QV m' fs l l'):(∀b,fs.contains b=true→ι b=none)→ ∀ {vs:List Value},Cb ι l vs→
  ∃ι':Emb,R ι' m' w∧ι'.tx=ι.tx∧ι.le ι'∧(∀i,fs.contains i=false→ι' i=ι i)∧Cb ι' l' vs:=by
 have args:∀ {l:List AV} {vs:List Value} {ι ι':Emb},ι.le ι'→Cb ι l vs→Cb ι' l vs:=by
  intro l
  induction l with
  |nil=>intro vs ι ι' _ h;cases vs<;>exact h
  |cons x l ih=>intro vs ι ι' hl h;cases vs with
   |nil=>exact h
   |cons v vs=>exact ⟨AV.rel_mono hl h.1,ih hl h.2⟩
 induction h with
 |nil=>intro _ vs hr;exact ⟨ι,hR,rfl,.refl _,fun _ _=>rfl,hr⟩
 |same _ ih=>
  intro hfs vs hr
  cases vs with
  |nil=>exact hr.elim
  |cons v vs=>
   obtain ⟨ι',k1,k2,k3,k4,k5⟩:=ih hfs hr.2
   exact ⟨ι',k1,k2,k3,k4,AV.rel_mono k3 hr.1,k5⟩
 |@bs fs b y l l' hm hb _ ih=>
  intro hfs vs hr
  cases vs with
  |nil=>exact hr.elim
  |cons v vs=>
   obtain ⟨ι',k1,k2,k3,k4,k5⟩:=ih (fun i hi=>hfs i (by simp only [List.contains_cons,hi,Bool.or_true])) hr.2
   have h0:ι' b=none:=by rw [k4 b hb];exact hfs b (by simp)
   have hv:Co ι' (fun i=>U8 (nth y i)) (Arr.a8 y).size v:=Cell.rel_mono (x:= .bs y) k3 hr.1
   obtain ⟨ι2,j1,j2,j3,j4,j5⟩:=cl k1 hro hm h0 rfl (fun _ _ _=>rfl) hv
   refine ⟨ι2,j1,j2.trans k2,⟨fun b l h=>j3.f b l (k3.f b l h),fun c o v h=>j3.tx c o v (k3.tx c o v h)⟩,fun i hi=>?_,j5,args j3 k5⟩
   simp only [List.contains_cons,Bool.or_eq_false_iff] at hi
   rw [j4 i (by simpa using hi.1),k4 i hi.2]
 |@is fs b y l l' hm hb _ ih=>
  intro hfs vs hr
  cases vs with
  |nil=>exact hr.elim
  |cons v vs=>
   obtain ⟨ι',k1,k2,k3,k4,k5⟩:=ih (fun i hi=>hfs i (by simp only [List.contains_cons,hi,Bool.or_true])) hr.2
   have h0:ι' b=none:=by rw [k4 b hb];exact hfs b (by simp)
   have hv:Co ι' (fun i=> .int .i64 (y.getD i 0)) (Arr.ai y).size v:=Cell.rel_mono (x:= .is y) k3 hr.1
   obtain ⟨ι2,j1,j2,j3,j4,j5⟩:=cl k1 hro hm h0 rfl (fun _ _ _=>rfl) hv
   refine ⟨ι2,j1,j2.trans k2,⟨fun b l h=>j3.f b l (k3.f b l h),fun c o v h=>j3.tx c o v (k3.tx c o v h)⟩,fun i hi=>?_,j5,args j3 k5⟩
   simp only [List.contains_cons,Bool.or_eq_false_iff] at hi
   rw [j4 i (by simpa using hi.1),k4 i hi.2]
theorem Ev.partsB{P:Program}{f:FuncId}{m m' N N':Ak}{args args1 args':List AV}{v v':AV}(os:List (Option (Nat×Nat)))(fs:List Nat)(hr:FT m os m')(ha:UN (U3 os) args args1)(hs:QV m' fs args1 args')(hro:gj m'=true)(hfs:fs.all (fun b=>(U3 os b).isNone)=true)
  (h:Ev P (.call f args' m') (.val v (m'++N))) (hv:v.ren (Ig m'.length m.length)=v') (hN:N.map (Row.ren (Ig m'.length m.length))=N'):Ev P (.call f args m) (.val v' (m++N')):=by
 subst hv hN
 refine Ev.semF fun ι w vs hR hargs=>?_
 obtain ⟨ιp,k1,k2,k3,k4,k5⟩:=hs.rel (xh hr.of hR) hro (fun b hb=>by
  have:=List.all_eq_true.1 hfs b (by simpa using hb)
  unfold Gq
  simp only [Option.isNone_iff_eq_none] at this
  simp only [this,Option.bind_none]) (ha.rel hargs)
 refine (sound h ιp w vs k1 k5).mono fun e' w' hq=>?_
 obtain ⟨u,ι1,rfl,hv,hst⟩:=hq
 obtain ⟨ι2,hsame,hst⟩:=Wm (ι:=ι) (fun c ⟨b,l,x,_,h2,_⟩=>by have:=P2 hro h2;cases this) k2 hR hst
 exact ⟨u,ι2,rfl,AV.ren_rel hsame hv,hst⟩
structure WO(P:Program)(k:Nat)(ops:Array Oper)(l:List Oper)(s:St)(K:St→Prop):Prop where
 h:∃r,Ev P (.ops k ops l s) (.out .normal r)∧K r
structure WC(P:Program)(k:Nat)(c:Code)(s:St)(Φ:Ex→St→Prop):Prop where
 h:∃e r,Ev P (.code k c s) (.out e r)∧Φ e r
theorem Ck{α:Type}(l:List α)(o n:Nat):(cut l o n).length=min n (l.length-o):=by simp [cut]
theorem jE{n:Nat}(l:AB n)(i:Nat)(v:BitVec n):l.set i v=put l i v:=rfl
theorem T5{n:Nat}(l:AB n)(k:Nat)(x y:BitVec n):put (put l k x) k y=put l k y:=by simp [put]
theorem dY(l:List Int)(i:Nat)(v:Int):(XF l i v).length=l.length:=by simp [XF]
theorem yJ(l:AB 8)(i:Nat)(v:BitVec 8):(Arr.a8 l).set i (.val (U8 v))=some (.a8 (put l i v)):=by simp [Arr.set]
theorem vA(l:AB 32)(i:Nat)(v:BitVec 32):(Arr.a32 l).set i (.val (FL v))=some (.a32 (put l i v)):=by simp [Arr.set]
theorem pm(l:AB 64)(i:Nat)(v:BitVec 64):(Arr.a64 l).set i (.val (BW v))=some (.a64 (put l i v)):=by simp [Arr.set]
theorem wI(l:List Int)(i:Nat)(v:Int):(Arr.ai l).set i (.val (.int .i64 v))=some (.ai (XF l i v)):=by simp [Arr.set,i?]
theorem ACP(l:List Cell)(i:Nat)(c:Cell):(Arr.ac l).set i c=some (.ac (sW l i c)):=rfl
section
variable {P:Program} {k N:Nat} {ops:Array Oper} {d:Nat} {ty:TypeId} {pos:String} {af:Array Edge} {l:List Oper} {T:Nat→AV} {M M':Ak} {K:St→Prop}
theorem AN{s:St}(h:K s):WO P k ops [] s K:=⟨⟨s,Ev.nil,h⟩⟩
theorem AA{op:Op}{v:AV}(h:AL P (AC T) M op=some v)(hd:decide (d<N)=true)(hk:WO P k ops l ⟨N,upd T d v,M⟩ K):WO P k ops (⟨some d,op,ty,pos,af,none⟩::l) ⟨N,T,M⟩ K:=
 let ⟨r,h1,h2⟩:=hk.h;⟨⟨r,Ev.cons rfl hd (Ev.val h) h1,h2⟩⟩
theorem QN{op:Op}{v:AV}(h:CP P (AC T) M op=some (v,M'))(hd:decide (d<N)=true)(hk:WO P k ops l ⟨N,upd T d v,M'⟩ K):WO P k ops (⟨some d,op,ty,pos,af,none⟩::l) ⟨N,T,M⟩ K:=
 let ⟨r,h1,h2⟩:=hk.h;⟨⟨r,Ev.cons rfl hd (Ev.mem h) h1,h2⟩⟩
theorem oY{op:Op}{v:AV}(h:CP P (AC T) M op=some (v,M'))(hk:WO P k ops l ⟨N,T,M'⟩ K):WO P k ops (⟨none,op,ty,pos,af,none⟩::l) ⟨N,T,M⟩ K:=
 let ⟨r,h1,h2⟩:=hk.h;⟨⟨r,Ev.cons rfl rfl (Ev.mem h) h1,h2⟩⟩
theorem BE{op:Op}{v:AV}{news:Ak}(h:CP P (AC T) M op=some (v,M++news))(hM:M++news=M')(hd:decide (d<N)=true)(hk:WO P k ops l ⟨N,upd T d v,M'⟩ K):WO P k ops (⟨some d,op,ty,pos,af,none⟩::l) ⟨N,T,M⟩ K:=
 QN (by rw [h,hM]) hd hk
theorem Cs{op:Op}{v:AV}(h:Ev P (.op op (AC T) M) (.val v M'))(hd:decide (d<N)=true)(hk:WO P k ops l ⟨N,upd T d v,M'⟩ K):WO P k ops (⟨some d,op,ty,pos,af,none⟩::l) ⟨N,T,M⟩ K:=
 let ⟨r,h1,h2⟩:=hk.h;⟨⟨r,Ev.cons rfl hd h h1,h2⟩⟩
theorem ij{op:Op}{v:AV}(h:Ev P (.op op (AC T) M) (.val v M'))(hk:WO P k ops l ⟨N,T,M'⟩ K):WO P k ops (⟨none,op,ty,pos,af,none⟩::l) ⟨N,T,M⟩ K:=
 let ⟨r,h1,h2⟩:=hk.h;⟨⟨r,Ev.cons rfl rfl h h1,h2⟩⟩
theorem Bh{op:Op}{v:AV}{news:Ak}(h:Ev P (.op op (AC T) M) (.val v (M++news)))(hM:M++news=M')(hd:decide (d<N)=true)(hk:WO P k ops l ⟨N,upd T d v,M'⟩ K):WO P k ops (⟨some d,op,ty,pos,af,none⟩::l) ⟨N,T,M⟩ K:=
 Cs (by rw [←hM];exact h) hd hk
theorem G9{o:Oper}{s:St}(hw:CB ops s.t o=some true)(h:WO P k ops (⟨o.dst,o.op,o.type,o.pos,o.after,none⟩::l) s K):WO P k ops (o::l) s K:=by
 obtain ⟨r,h1,h2⟩:=h.h
 refine ⟨⟨r,?_,h2⟩⟩
 cases h1 with
 |cons hw' hd h hk=>exact Ev.cons hw hd h hk
 |skip hw' hd hk=>cases hw'
theorem N5{o:Oper}{s:St}(hw:CB ops s.t o=some false)(hd:bC s.n o.dst=true)(h:WO P k ops l ⟨s.n,Ce s.t o.dst mQ,s.m⟩ K):WO P k ops (o::l) s K:=
 let ⟨r,h1,h2⟩:=h.h;⟨⟨r,Ev.skip hw hd h1,h2⟩⟩
def HW (P : Program) (ops : Array Oper) (K : St → Prop) : List Oper → St → Prop
  | [], s => K s
  | o :: l, s => (CB ops s.t o = some true ∧ ∃ v news, Ev P (.op o.op (AC s.t) (BZ s.m)) (.val v (BZ s.m ++ news)) ∧ HW P ops K l ⟨s.n, Ce s.t o.dst v, s.m ++ news⟩) ∨
      (CB ops s.t o = some false ∧ HW P ops K l ⟨s.n, Ce s.t o.dst mQ, s.m⟩)
structure HO(P:Program)(ops:Array Oper)(l:List Oper)(s:St)(K:St→Prop):Prop where
 h:HW P ops K l s
theorem Bn{s:St}(h:K s):HO P ops [] s K:=⟨h⟩
theorem AE{op:Op}{v:AV}(h:AL P (AC T) (BZ M) op=some v)(_hd:decide (d<N)=true)(hk:HO P ops l ⟨N,upd T d v,M⟩ K):HO P ops (⟨some d,op,ty,pos,af,none⟩::l) ⟨N,T,M⟩ K:=
 ⟨.inl ⟨rfl,v,[],by rw [List.append_nil];exact Ev.val h,by rw [List.append_nil];exact hk.h⟩⟩
theorem G2{op:Op}{v:AV}{news:Ak}(h:CP P (AC T) (BZ M) op=some (v,BZ M++news))(hM:M++news=M')(_hd:decide (d<N)=true)(hk:HO P ops l ⟨N,upd T d v,M'⟩ K):HO P ops (⟨some d,op,ty,pos,af,none⟩::l) ⟨N,T,M⟩ K:=
 ⟨.inl ⟨rfl,v,news,Ev.mem h,by rw [hM];exact hk.h⟩⟩
theorem Io{op:Op}{v:AV}{news:Ak}(h:Ev P (.op op (AC T) (BZ M)) (.val v (BZ M++news)))(hM:M++news=M')(_hd:decide (d<N)=true)(hk:HO P ops l ⟨N,upd T d v,M'⟩ K):HO P ops (⟨some d,op,ty,pos,af,none⟩::l) ⟨N,T,M⟩ K:=
 ⟨.inl ⟨rfl,v,news,h,by rw [hM];exact hk.h⟩⟩
theorem Je{o:Oper}{s:St}(hw:CB ops s.t o=some true)(h:HO P ops (⟨o.dst,o.op,o.type,o.pos,o.after,none⟩::l) s K):HO P ops (o::l) s K:=by
 rcases h.h with ⟨_,r⟩ | ⟨h0,_⟩
 ·exact ⟨.inl ⟨hw,r⟩⟩
 ·cases h0
theorem Jx{o:Oper}{s:St}(hw:CB ops s.t o=some false)(h:HO P ops l ⟨s.n,Ce s.t o.dst mQ,s.m⟩ K):HO P ops (o::l) s K:=⟨.inr ⟨hw,h.h⟩⟩
theorem HW.line{s0:St}:∀ {l:List Oper} {s:St},HW P ops K l s→s.n=s0.n→ ∃(A:Nat→St) (W:Nat→Bool) (V:Nat→AV) (N:Nat→Ak),A 0=s∧(∀i o,l[i]?=some o→CB ops (A i).t o=some (W i))∧
  (∀i o,l[i]?=some o→W i=true→Ev P (.op o.op (AC (A i).t) (BZ (A i).m)) (.val (V i) (BZ (A i).m++N i)))∧
  (∀i o,l[i]?=some o→A (i+1)=if W i=true then ⟨s0.n,Ce (A i).t o.dst (V i),(A i).m++N i⟩ else ⟨s0.n,Ce (A i).t o.dst mQ,(A i).m⟩)∧K (A l.length)
 |[],s,h,_=>⟨fun _=>s,fun _=>true,fun _=> .c .any,fun _=>[],rfl,fun i o h=>by simp at h,fun i o h=>by simp at h,fun i o h=>by simp at h,h⟩
 |o::l,s,h,hn=>by
  rcases h with ⟨hw,v,news,hv,hr⟩ | ⟨hw,hr⟩
  ·obtain ⟨A,W,V,N,h0,h1,h2,h3,h4⟩:=HW.line (s:=⟨s.n,Ce s.t o.dst v,s.m++news⟩) hr hn
   refine ⟨fun i=>match i with | 0=>s | i+1=>A i,fun i=>match i with | 0=>true | i+1=>W i,fun i=>match i with | 0=>v | i+1=>V i,fun i=>match i with | 0=>news | i+1=>N i,rfl,fun i o' h=>?_,fun i o' h hw'=>?_,fun i o' h=>?_,h4⟩
   ·cases i with
    |zero=>simp at h;subst h;exact hw
    |succ i=>exact h1 i o' (by simpa using h)
   ·cases i with
    |zero=>simp at h;subst h;exact hv
    |succ i=>exact h2 i o' (by simpa using h) hw'
   ·cases i with
    |zero=>simp at h;subst h;simp only [if_true];rw [h0,hn]
    |succ i=>exact h3 i o' (by simpa using h)
  ·obtain ⟨A,W,V,N,h0,h1,h2,h3,h4⟩:=HW.line (s:=⟨s.n,Ce s.t o.dst mQ,s.m⟩) hr hn
   refine ⟨fun i=>match i with | 0=>s | i+1=>A i,fun i=>match i with | 0=>false | i+1=>W i,fun i=>match i with | 0=> .c .any | i+1=>V i,fun i=>match i with | 0=>[] | i+1=>N i,rfl,fun i o' h=>?_,fun i o' h hw'=>?_,fun i o' h=>?_,h4⟩
   ·cases i with
    |zero=>simp at h;subst h;exact hw
    |succ i=>exact h1 i o' (by simpa using h)
   ·cases i with
    |zero=>cases hw'
    |succ i=>exact h2 i o' (by simpa using h) hw'
   ·cases i with
    |zero=>simp at h;subst h;simp only;rw [h0,hn];rfl
    |succ i=>exact h3 i o' (by simpa using h)
theorem Ez{id:Nat}{l hl tl:List Oper}{s:St}{Φ:Ex→St→Prop}(n:Nat)(hm:P.follows .mixedOrders=true)(hok:Region.okAll l.toArray n s.n=true)(h1:l.take n=hl)(h2:l.drop n=tl)(hlen:hl.length=n)(h:HO P l.toArray hl s fun s'=>WO P k l.toArray tl s' (Φ .normal)):
  WC P k (.region id l.toArray true) s Φ:=by
 obtain ⟨A,W,V,N',h0,g1,g2,g3,g4⟩:=HW.line (s0:=s) h.h rfl
 obtain ⟨r,h3,h4⟩:=g4.h
 have conv:∀(i:Nat) (o:Oper),i<n→l.toArray[i]?=some o→hl[i]?=some o:=fun i o hi ho=>by
  rw [←h1,List.getElem?_take,if_pos hi];simpa using ho
 exact ⟨⟨.normal,r,Ev.draw n A W V N' hm hok h0 (fun i o hi ho=>g1 i o (conv i o hi ho)) (fun i o hi ho=>g2 i o (conv i o hi ho)) (fun i o hi ho=>g3 i o (conv i o hi ho)) (by rw [hlen] at h3;simpa [h2] using h3),h4⟩⟩
def HI:List Oper→Nat→Nat→List Oper
 |[],_,_=>[]
 |o::l,0,i0=>{ o with after:=o.after.push ⟨i0,.data⟩ }::l
 |o::l,n+1,i0=>o::HI l n i0
theorem Pc:∀(l:List Oper) (n i0 j:Nat),(HI l n i0)[j]?=if j=n then l[j]?.map fun o=>{ o with after:=o.after.push ⟨i0,.data⟩ } else l[j]?
 |[],n,i0,j=>by simp [HI]
 |o::l,0,i0,0=>by simp [HI]
 |o::l,0,i0,j+1=>by simp [HI]
 |o::l,n+1,i0,0=>by simp [HI]
 |o::l,n+1,i0,j+1=>by simp [HI,Pc l n i0 j]
theorem Pl(l:List Oper)(n i0:Nat):BK l.toArray n i0=(HI l n i0).toArray:=by
 apply Array.ext_getElem?
 intro j
 have e1:(HI l n i0).toArray[j]?=(HI l n i0)[j]?:=List.getElem?_toArray
 have e2:l.toArray[j]?=l[j]?:=List.getElem?_toArray
 rw [e1,Pc]
 by_cases h:j=n
 ·subst h
  rw [if_pos rfl]
  cases ho:l[j]? with
  |none=>unfold BK;rw [e2,ho];simp [ho]
  |some o=>rw [SH (by rw [e2];exact ho)];rfl
 ·rw [if_neg h,Pk h,e2]
theorem S7{id:Nat}{l hl tl:List Oper}{s:St}{Φ:Ex→St→Prop}{d:Option Tmp}{op:Op}{ty:TypeId}{pos:String}{af:Array Edge}{g:Option (Nat×Bool)}(n i0:Nat)(hm:P.follows .mixedOrders=true)(hc:MJ l.toArray n i0=true)(hok:Region.okAll (HI l n i0).toArray n s.n=true)(h1:l.take n=hl)(h2:l.drop n=⟨d,op,ty,pos,af,g⟩::tl)(hlen:hl.length=n)
  (h:HO P (HI l n i0).toArray hl s fun s'=>WO P k (HI l n i0).toArray (⟨d,op,ty,pos,af.push ⟨i0,.data⟩,g⟩::tl) s' (Φ .normal)):WC P k (.region id l.toArray true) s Φ:=by
 obtain ⟨A,W,V,N',h0,g1,g2,g3,g4⟩:=HW.line (s0:=s) h.h rfl
 obtain ⟨r,h3,h4⟩:=g4.h
 have ne:∀i,i<n→(HI l n i0)[i]?=l[i]?:=fun i hi=>by rw [Pc,if_neg O_]
 have conv:∀(i:Nat) (o:Oper),i<n→(BK l.toArray n i0)[i]?=some o→hl[i]?=some o:=fun i o hi ho=>by
  rw [Pl,show (HI l n i0).toArray[i]?=(HI l n i0)[i]? from List.getElem?_toArray,ne i hi] at ho
  rw [←h1,List.getElem?_take,if_pos hi];exact ho
 have hd:(HI l n i0).drop n=⟨d,op,ty,pos,af.push ⟨i0,.data⟩,g⟩::tl:=by
  apply List.ext_getElem?
  intro j
  rw [List.getElem?_drop,Pc]
  have e:=congrArg (fun l=>l[j]?) h2
  simp only [List.getElem?_drop] at e
  cases j with
  |zero=>rw [if_pos O_,e];rfl
  |succ j=>rw [if_neg O_,e];rfl
 refine ⟨⟨.normal,r,Ev.late n i0 A W V N' hm hc (by rw [Pl];exact hok) h0 (fun i o hi ho=>?_) (fun i o hi ho=>g2 i o (conv i o hi ho)) (fun i o hi ho=>g3 i o (conv i o hi ho)) ?_,h4⟩⟩
 ·rw [Pl];exact g1 i o (conv i o hi ho)
 ·rw [hlen] at h3
  rw [Pl]
  show Ev P (.ops k (HI l n i0).toArray ((HI l n i0).drop n) (A n)) (.out .normal r)
  rw [hd];exact h3
def SW (P : Program) (D : Nat) (K : St → Prop) : List Oper → St → Prop
  | [], s => K s
  | o :: l, s => (BG o = true ∧ ∃ v m', CP P (AC s.t) s.m o.op = some (v, m') ∧ m'.length = s.m.length ∧ SW P D K l ⟨s.n, s.t, m'⟩) ∨
      (BG o = false ∧ ∃ v, AL P (AC s.t) (Gp D) o.op = some v ∧ SW P D K l ⟨s.n, Ce s.t o.dst v, s.m⟩)
structure DO(P:Program)(D:Nat)(l:List Oper)(s:St)(K:St→Prop):Prop where
 h:SW P D K l s
theorem ABM{D:Nat}{s:St}(h:K s):DO P D [] s K:=⟨h⟩
theorem KS{D:Nat}{op:Op}{v:AV}(h:AL P (AC T) (Gp D) op=some v)(hs:BG ⟨some d,op,ty,pos,af,none⟩=false)(hk:DO P D l ⟨N,upd T d v,M⟩ K):DO P D (⟨some d,op,ty,pos,af,none⟩::l) ⟨N,T,M⟩ K:=
 ⟨.inr ⟨hs,v,h,hk.h⟩⟩
theorem te{D:Nat}{t:TypeId}{a v:Operand}{b o:Nat}{x z:Arr}{c:Cell}(ha:AC T a= .c (.ptr b o))(hv:AC T v= .c c)(hm:M[b]?=some (.row true x))(h1:c.one=true)(hs:De P t=some 1)(ho:o<x.size)(hz:x.set o c=some z)(hM:M.set b (.row true z)=M')
  (hk:DO P D l ⟨N,T,M'⟩ K):DO P D (⟨none,.store t a v,ty,pos,af,none⟩::l) ⟨N,T,M⟩ K:=
 ⟨.inl ⟨rfl,.c .any,M',by simp [CP,Ic,ha,hv,hm,h1,hs,ho,hz,hM],by rw [←hM];simp,hk.h⟩⟩
theorem cH {D : Nat} {t : TypeId} {a v : Operand} {b o : Nat} {x : AB 8} {w : BitVec 8} (ha : AC T a = .c (.ptr b o)) (hv : AC T v = .c (.val (U8 w))) (hm : M[b]? = some (.row true (.a8 x))) (hs : De P t = some 1) (ho : o < x.length) (hM : M.set b (.row true (.a8 (put x o w))) = M')
    (hk : DO P D l ⟨N, T, M'⟩ K) : DO P D (⟨none, .store t a v, ty, pos, af, none⟩ :: l) ⟨N, T, M⟩ K := te ha hv hm rfl hs ho (yJ x o w) hM hk
theorem SW.line{s0:St}{D:Nat}:∀ {l:List Oper} {s:St},SW P D K l s→s.n=s0.n→ ∃(A:Nat→St) (V:Nat→AV),A 0=s∧
  (∀i o,l[i]?=some o→BG o=false→AL P (AC (A i).t) (Gp D) o.op=some (V i)∧A (i+1)=⟨s0.n,Ce (A i).t o.dst (V i),(A i).m⟩)∧
  (∀i o,l[i]?=some o→BG o=true→ ∃v m',CP P (AC (A i).t) (A i).m o.op=some (v,m')∧m'.length=(A i).m.length∧A (i+1)=⟨s0.n,(A i).t,m'⟩)∧K (A l.length)
 |[],s,h,_=>⟨fun _=>s,fun _=> .c .any,rfl,fun i o h=>by simp at h,fun i o h=>by simp at h,h⟩
 |o::l,s,h,hn=>by
  rcases h with ⟨hs,v,m',hv,hl,hr⟩ | ⟨hs,v,hv,hr⟩
  ·obtain ⟨A,V,h0,h1,h2,h3⟩:=SW.line (s:=⟨s.n,s.t,m'⟩) hr hn
   refine ⟨fun i=>match i with | 0=>s | i+1=>A i,fun i=>match i with | 0=> .c .any | i+1=>V i,rfl,fun i o' h hs'=>?_,fun i o' h hs'=>?_,h3⟩
   ·cases i with
    |zero=>simp at h;subst h;rw [hs] at hs';cases hs'
    |succ i=>exact h1 i o' (by simpa using h) hs'
   ·cases i with
    |zero=>simp at h;subst h;exact ⟨v,m',hv,hl,by simp only;rw [h0,hn]⟩
    |succ i=>exact h2 i o' (by simpa using h) hs'
  ·obtain ⟨A,V,h0,h1,h2,h3⟩:=SW.line (s:=⟨s.n,Ce s.t o.dst v,s.m⟩) hr hn
   refine ⟨fun i=>match i with | 0=>s | i+1=>A i,fun i=>match i with | 0=>v | i+1=>V i,rfl,fun i o' h hs'=>?_,fun i o' h hs'=>?_,h3⟩
   ·cases i with
    |zero=>simp at h;subst h;exact ⟨hv,by simp only;rw [h0,hn]⟩
    |succ i=>exact h1 i o' (by simpa using h) hs'
   ·cases i with
    |zero=>simp at h;subst h;rw [hs] at hs';cases hs'
    |succ i=>exact h2 i o' (by simpa using h) hs'
theorem qg{id:Nat}{l:List Oper}{s:St}{Φ:Ex→St→Prop}(hm:P.follows .mixedOrders=true)(hok:Region.okStores l.toArray s.n=true)(h:DO P s.m.length l s (Φ .normal)):WC P k (.region id l.toArray true) s Φ:=by
 obtain ⟨A,V,h0,h1,h2,h3⟩:=SW.line (s0:=s) h.h rfl
 exact ⟨⟨.normal,_,Ev.stores A V hm hok h0 (fun i o ho=>h1 i o (by simpa using ho)) (fun i o ho=>h2 i o (by simpa using ho)),by simpa using h3⟩⟩
def kill(S:List Nat):Nat→Ak→Ak
 |_,[]=>[]
 |i,r::m=>(if S.contains i then .dead else r)::kill S (i+1) m
theorem Kz(S:List Nat):∀(m:Ak) (i:Nat),(kill S i m).length=m.length
 |[],_=>rfl
 |_::m,i=>by rw [kill,List.length_cons,List.length_cons,Kz S m]
theorem VS(S:List Nat):∀(m:Ak) (i b:Nat) (own:Bool) (x:Arr),(kill S i m)[b]?=some (.row own x)→S.contains (i+b)=false∧m[b]?=some (.row own x)
 |[],_,b,own,x,h=>by simp [kill] at h
 |r::m,i,0,own,x,h=>by
  simp only [kill,List.getElem?_cons_zero,Option.some.injEq] at h
  split at h
  ·cases h
  ·rename_i hc
   exact ⟨by rw [Nat.add_zero];exact Bool.eq_false_iff.2 hc,by rw [h];rfl⟩
 |r::m,i,b+1,own,x,h=>by
  rw [kill,List.getElem?_cons_succ] at h
  have:=VS S m (i+1) b own x h
  rw [show i+(b+1)=i+1+b by omega,List.getElem?_cons_succ]
  exact this
def aX(S:List Nat)(m0 m:Ak):Prop:=m.length=m0.length∧ ∀b,S.contains b=false→m[b]?=m0[b]?
theorem aX.R{S:List Nat}{m0 m:Ak}(h:aX S m0 m){ι:Emb}{w:World}(hR:R ι m w):R ι (kill S 0 m0) w:=by
 have get:∀ {b:Nat} {own:Bool} {x:Arr},(kill S 0 m0)[b]?=some (.row own x)→m[b]?=some (.row own x):=fun {b own x} hb=>by
  obtain ⟨h1,h2⟩:=VS S m0 0 b own x hb
  rw [Nat.zero_add] at h1
  rw [h.2 b h1];exact h2
 exact ⟨fun b hb=>hR.dom b (by rw [h.1];rwa [Kz] at hb),fun b l own x hb hm=>hR.rows b l own x hb (get hm),fun b b' l l' own own' x x' hne hb hb' hm hm' ho=>hR.inj b b' l l' own own' x x' hne hb hb' (get hm) (get hm') ho,fun c Φ hc=>⟨(hR.stay c Φ (hc.to _)).1,fun b l x hb hm=>(hR.stay c Φ (hc.to _)).2 b l x hb (get hm)⟩⟩
def SX (P : Program) (S : List Nat) (M0 : Ak) (ops : Array Oper) (K : St → Prop) : Nat → List Oper → St → Prop
  | _, [], s => K s
  | i, o :: l, s => (BG o = true ∧ ∃ v m', CP P (AC s.t) s.m o.op = some (v, m') ∧ m'.length = s.m.length ∧ (∀ b, S.contains b = false → m'[b]? = s.m[b]?) ∧ SX P S M0 ops K (i + 1) l ⟨s.n, s.t, m'⟩) ∨
      (BG o = false ∧ ∃ v, (AL P (AC s.t) (kill S 0 M0) o.op = some v ∨ (early ops i = true ∧ Ev P (.op o.op (AC s.t) M0) (.val v M0))) ∧ SX P S M0 ops K (i + 1) l ⟨s.n, Ce s.t o.dst v, s.m⟩)
structure XO(P:Program)(S:List Nat)(M0:Ak)(ops:Array Oper)(i:Nat)(l:List Oper)(s:St)(K:St→Prop):Prop where
 h:SX P S M0 ops K i l s
section
variable {S:List Nat} {i:Nat} {M0:Ak} {ops:Array Oper}
theorem ib{s:St}(h:K s):XO P S M0 ops i [] s K:=⟨h⟩
theorem E3{op:Op}{v:AV}(h:AL P (AC T) (kill S 0 M0) op=some v)(hs:BG ⟨some d,op,ty,pos,af,none⟩=false)(hk:XO P S M0 ops (i+1) l ⟨N,upd T d v,M⟩ K):XO P S M0 ops i (⟨some d,op,ty,pos,af,none⟩::l) ⟨N,T,M⟩ K:=
 ⟨.inr ⟨hs,v,.inl h,hk.h⟩⟩
theorem Fq{op:Op}{v:AV}(he:early ops i=true)(h:AL P (AC T) M0 op=some v)(hs:BG ⟨some d,op,ty,pos,af,none⟩=false)(hk:XO P S M0 ops (i+1) l ⟨N,upd T d v,M⟩ K):XO P S M0 ops i (⟨some d,op,ty,pos,af,none⟩::l) ⟨N,T,M⟩ K:=
 ⟨.inr ⟨hs,v,.inr ⟨he,.val h⟩,hk.h⟩⟩
theorem xt{op:Op}{v:AV}(he:early ops i=true)(h:Ev P (.op op (AC T) M0) (.val v (M0++[])))(hs:BG ⟨some d,op,ty,pos,af,none⟩=false)(hk:XO P S M0 ops (i+1) l ⟨N,upd T d v,M⟩ K):XO P S M0 ops i (⟨some d,op,ty,pos,af,none⟩::l) ⟨N,T,M⟩ K:=
 ⟨.inr ⟨hs,v,.inr ⟨he,by rwa [List.append_nil] at h⟩,hk.h⟩⟩
theorem iD{b:Nat}{r:Row}(hb:S.contains b=true)(hM:M.set b r=M'):∀c,S.contains c=false→M'[c]?=M[c]?:=fun c hc=>by
 have hne:b≠c:=fun e=>by rw [e,hc] at hb;cases hb
 rw [←hM,List.getElem?_set_ne hne]
theorem iB{t:TypeId}{a v:Operand}{b o:Nat}{x z:Arr}{c:Cell}(hb:S.contains b=true)(ha:AC T a= .c (.ptr b o))(hv:AC T v= .c c)(hm:M[b]?=some (.row true x))(h1:c.one=true)(hs:De P t=some 1)(ho:o<x.size)(hz:x.set o c=some z)(hM:M.set b (.row true z)=M')
  (hk:XO P S M0 ops (i+1) l ⟨N,T,M'⟩ K):XO P S M0 ops i (⟨none,.store t a v,ty,pos,af,none⟩::l) ⟨N,T,M⟩ K:=
 ⟨.inl ⟨rfl,.c .any,M',by simp [CP,Ic,ha,hv,hm,h1,hs,ho,hz,hM],by rw [←hM];simp,iD hb hM,hk.h⟩⟩
theorem Xm {t : TypeId} {a v : Operand} {b o : Nat} {x : AB 64} {w : BitVec 64} (hb : S.contains b = true) (ha : AC T a = .c (.ptr b o)) (hv : AC T v = .c (.val (BW w))) (hm : M[b]? = some (.row true (.a64 x))) (hs : De P t = some 1) (ho : o < x.length) (hM : M.set b (.row true (.a64 (put x o w))) = M')
    (hk : XO P S M0 ops (i + 1) l ⟨N, T, M'⟩ K) : XO P S M0 ops i (⟨none, .store t a v, ty, pos, af, none⟩ :: l) ⟨N, T, M⟩ K := iB hb ha hv hm rfl hs ho (pm x o w) hM hk
theorem nW{t:TypeId}{a v:Operand}{b:Nat}{x y:Arr}(hb:S.contains b=true)(ha:AC T a= .c (.ptr b 0))(hv:AC T v= .agg y)(hm:M[b]?=some (.row true x))(h1:y.one=true){n:Nat}(hs:De P t=some n)(hy:y.size=n)(hx:x.size=n)(hM:M.set b (.row true y)=M')
  (hk:XO P S M0 ops (i+1) l ⟨N,T,M'⟩ K) (hxm:x.isMap=false:=by rfl):XO P S M0 ops i (⟨none,.store t a v,ty,pos,af,none⟩::l) ⟨N,T,M⟩ K:=
 ⟨.inl ⟨rfl,.c .any,M',by simp [CP,Ic,ha,hv,hm,h1,hs,hx,hy,hM,hxm],by rw [←hM];simp,iD hb hM,hk.h⟩⟩
theorem SX.line{s0:St}:∀ {l:List Oper} {i:Nat} {s:St},SX P S M0 ops K i l s→s.n=s0.n→aX S M0 s.m→ ∃(A:Nat→St) (V:Nat→AV) (E:Nat→Bool),A 0=s∧(∀c,c≤l.length→aX S M0 (A c).m)∧
  (∀j o,l[j]?=some o→BG o=false→E j=false→AL P (AC (A j).t) (kill S 0 M0) o.op=some (V j))∧
  (∀j o,l[j]?=some o→BG o=false→E j=true→Ev P (.op o.op (AC (A j).t) M0) (.val (V j) M0))∧
  (∀j o,l[j]?=some o→BG o=false→(E j=true→early ops (i+j)=true)∧A (j+1)=⟨s0.n,Ce (A j).t o.dst (V j),(A j).m⟩)∧
  (∀j o,l[j]?=some o→BG o=true→ ∃v m',CP P (AC (A j).t) (A j).m o.op=some (v,m')∧m'.length=(A j).m.length∧A (j+1)=⟨s0.n,(A j).t,m'⟩)∧K (A l.length)
 |[],i,s,h,_,ha=>⟨fun _=>s,fun _=> .c .any,fun _=>false,rfl,fun _ _=>ha,fun j o h=>by simp at h,fun j o h=>by simp at h,fun j o h=>by simp at h,fun j o h=>by simp at h,h⟩
 |o::l,i,s,h,hn,ha=>by
  rcases h with ⟨hs,v,m',hv,hl,hag,hr⟩ | ⟨hs,v,hv,hr⟩
  ·obtain ⟨A,V,E,h0,hc,h1,h1',h1'',h2,h3⟩:=SX.line (s:=⟨s.n,s.t,m'⟩) hr hn ⟨by rw [hl];exact ha.1,fun b hb=>by rw [hag b hb];exact ha.2 b hb⟩
   refine ⟨fun i=>match i with | 0=>s | i+1=>A i,fun i=>match i with | 0=> .c .any | i+1=>V i,fun i=>match i with | 0=>false | i+1=>E i,rfl,fun c hcl=>?_,fun j o' h hs'=>?_,fun j o' h hs'=>?_,fun j o' h hs'=>?_,fun j o' h hs'=>?_,h3⟩
   ·cases c with
    |zero=>exact ha
    |succ c=>exact hc c (by simpa using hcl)
   ·cases j with
    |zero=>simp at h;subst h;rw [hs] at hs';cases hs'
    |succ j=>exact h1 j o' (by simpa using h) hs'
   ·cases j with
    |zero=>simp at h;subst h;rw [hs] at hs';cases hs'
    |succ j=>exact h1' j o' (by simpa using h) hs'
   ·cases j with
    |zero=>simp at h;subst h;rw [hs] at hs';cases hs'
    |succ j=>rw [show i+(j+1)=i+1+j by omega];exact h1'' j o' (by simpa using h) hs'
   ·cases j with
    |zero=>simp at h;subst h;exact ⟨v,m',hv,hl,by simp only;rw [h0,hn]⟩
    |succ j=>exact h2 j o' (by simpa using h) hs'
  ·obtain ⟨A,V,E,h0,hc,h1,h1',h1'',h2,h3⟩:=SX.line (s:=⟨s.n,Ce s.t o.dst v,s.m⟩) hr hn ha
   have hE:∃e:Bool,(e=false→AL P (AC s.t) (kill S 0 M0) o.op=some v)∧(e=true→early ops i=true∧Ev P (.op o.op (AC s.t) M0) (.val v M0)):=by
    rcases hv with hv | hv
    ·exact ⟨false,fun _=>hv,(fun h=>by cases h)⟩
    ·exact ⟨true,(fun h=>by cases h),fun _=>hv⟩
   obtain ⟨e,he1,he2⟩:=hE
   refine ⟨fun i=>match i with | 0=>s | i+1=>A i,fun i=>match i with | 0=>v | i+1=>V i,fun i=>match i with | 0=>e | i+1=>E i,rfl,fun c hcl=>?_,fun j o' h hs'=>?_,fun j o' h hs'=>?_,fun j o' h hs'=>?_,fun j o' h hs'=>?_,h3⟩
   ·cases c with
    |zero=>exact ha
    |succ c=>exact hc c (by simpa using hcl)
   ·cases j with
    |zero=>simp at h;subst h;exact he1
    |succ j=>exact h1 j o' (by simpa using h) hs'
   ·cases j with
    |zero=>simp at h;subst h;exact fun h=>(he2 h).2
    |succ j=>exact h1' j o' (by simpa using h) hs'
   ·cases j with
    |zero=>simp at h;subst h;exact ⟨fun h=>(he2 h).1,by simp only;rw [h0,hn]⟩
    |succ j=>rw [show i+(j+1)=i+1+j by omega];exact h1'' j o' (by simpa using h) hs'
   ·cases j with
    |zero=>simp at h;subst h;rw [hs] at hs';cases hs'
    |succ j=>exact h2 j o' (by simpa using h) hs'
end
theorem Pm{id:Nat}{l:List Oper}{s:St}{Φ:Ex→St→Prop}(S:List Nat)(hm:P.follows .mixedOrders=true)(hok:Region.okStores l.toArray s.n=true)(h:XO P S s.m l.toArray 0 l s (Φ .normal)):WC P k (.region id l.toArray true) s Φ:=by
 obtain ⟨A,V,E,h0,hc,h1,h1',h1'',h2,h3⟩:=SX.line (s0:=s) h.h rfl ⟨rfl,fun _ _=>rfl⟩
 exact ⟨⟨.normal,_,Ev.stores2 A V E hm hok h0 (fun i o ho hs he=>⟨_,fun c hcl ι w hR=>(hc c (by simpa using hcl)).R hR,h1 i o (by simpa using ho) hs he⟩) (fun i o ho=>h1' i o (by simpa using ho)) (fun i o ho=>by have:=h1'' i o (by simpa using ho);rw [Nat.zero_add] at this;exact this) (fun i o ho=>h2 i o (by simpa using ho)),by simpa using h3⟩⟩
theorem oc{x:Operand}{v:AV}(h:AC T x=v):AL P (AC T) M (.move x)=some v:=by rw [←h];rfl
theorem Af{x:Operand}{v:Cell}(h:AC T x= .c v):AL P (AC T) M (.move x)=some ((.c v)):=
 oc h
theorem E9{x:Operand}{v:List AV}(h:AC T x= .tup v):AL P (AC T) M (.move x)=some ((.tup v)):=
 oc h
theorem od{x:Operand}{v:AV}(h:AC T x=v):AL P (AC T) M (.assign x)=some (v):=
 (by rw [←h];rfl)
theorem Ac{x:Operand}{v:Cell}(h:AC T x= .c v):AL P (AC T) M (.assign x)=some ((.c v)):=
 od h
theorem xa{op:BinOp}{t:TypeId}{x y:Operand}{a b c:Value}(h:binOp op t a b=(pure c:Sem Value))(hg:eqGuard op t x y a b=(pure ():Sem Unit)):bin op t x y a b=(pure c:Sem Value):=by
 unfold bin;rw [hg,h];rfl
theorem mK{op:BinOp}{t:TypeId}{x y:Operand}{a b c:Value}(hb:∀p,a≠ .bool p)(h:bin op t x y a b=(pure c:Sem Value)):No P op t x y (.c (.val a)) (.c (.val b))=some (.c (.val c)):=by
 unfold No
 simp only
 split
 ·rename_i p q;exact absurd rfl (hb p)
 ·rename_i p q;exact absurd rfl (hb p)
 ·rw [h];rfl
theorem B2{op:BinOp}{t t':TypeId}{x y:Operand}{ka kb:IntKind}{a b:Int}{c:Value}(hx:AC T x= .c (.val (.int ka a)))(hy:AC T y= .c (.val (.int kb b)))(h:binOp op t (.int ka a) (.int kb b)=(pure c:Sem Value)):AL P (AC T) M (.binOp op t x y t')=some ((.c (.val c))):=
 (by
  show No P op t x y (AC T x) (AC T y)=_
  rw [hx,hy]
  refine mK (fun p h=>by cases h) (xa h ?_)
  unfold eqGuard
  cases op<;>rfl)
theorem yj{t n el:Nat}{x i:Operand}{b o sz:Nat}{kd:IntKind}{j:Nat}(hx:AC T x= .c (.ptr b o))(hi:AC T i= .c (.val (.int kd (j:Int))))(hu:P.underlying t=some (.array n el))(hs:De P el=some sz)(h0:j<n):AL P (AC T) M (.indexAddr t x i)=some ((.c (.ptr b (o+j*sz)))):=
 (by
  show Hb P t (AC T x) (AC T i)=_
  rw [hx,hi]
  have h1:(0:Int)≤(j:Int)∧(j:Int)<(n:Int):=by omega
  simp only [Hb,hu,Fc,hs,h1,and_self,if_true,Int.toNat_natCast])
theorem AT{t n el:Nat}{x i:Operand}{b:Nat}{kd:IntKind}{j:Nat}(hx:AC T x= .c (.ptr b 0))(hi:AC T i= .c (.val (.int kd (j:Int))))(hu:P.underlying t=some (.array n el))(hs:De P el=some 1)(h0:j<n):AL P (AC T) M (.indexAddr t x i)=some ((.c (.ptr b j))):=
 (yj hx hi hu hs h0).trans (by rw [Nat.zero_add,Nat.mul_one])
theorem TU{t el:Nat}{x i:Operand}{b o len cap sz:Nat}{kd:IntKind}{j:Nat}(hx:AC T x= .c (.sl b o len cap sz))(hi:AC T i= .c (.val (.int kd (j:Int))))(hu:P.underlying t=some (.slice el))(hs:De P el=some sz)(h0:j<len):AL P (AC T) M (.indexAddr t x i)=some ((.c (.ptr b (o+j*sz)))):=
 (by
  show Hb P t (AC T x) (AC T i)=_
  rw [hx,hi]
  have h1:(0:Int)≤(j:Int)∧(j:Int)<(len:Int):=by omega
  simp only [Hb,hu,Fc,hs,h1,and_self,if_true,Int.toNat_natCast])
theorem DI{t el:Nat}{x i:Operand}{b len cap:Nat}{kd:IntKind}{j:Nat}(hx:AC T x= .c (.sl b 0 len cap 1))(hi:AC T i= .c (.val (.int kd (j:Int))))(hu:P.underlying t=some (.slice el))(hs:De P el=some 1)(h0:j<len):AL P (AC T) M (.indexAddr t x i)=some ((.c (.ptr b j))):=
 (TU hx hi hu hs h0).trans (by rw [Nat.zero_add,Nat.mul_one])
theorem Yj{t el:Nat}{x i:Operand}{b o len cap:Nat}{kd:IntKind}{j:Nat}(hx:AC T x= .c (.sl b o len cap 1))(hi:AC T i= .c (.val (.int kd (j:Int))))(hu:P.underlying t=some (.slice el))(hs:De P el=some 1)(h0:j<len):AL P (AC T) M (.indexAddr t x i)=some ((.c (.ptr b (o+j)))):=
 (TU hx hi hu hs h0).trans (by rw [Nat.mul_one])
theorem B9{t:TypeId}{a:Operand}{b o:Nat}{own:Bool}{x:Arr}{c:Cell}(ha:AC T a= .c (.ptr b o))(hm:M[b]?=some (.row own x))(hr:BC P t=some false)(ho:o<x.size)(hg:x.get o=c):AL P (AC T) M (.load t a)=some ((.c c)):=
 (by
  simp only [AL,ha,hm,FK,hr,ho,if_true,hg])
theorem Za{t:TypeId}{a:Operand}{b o:Nat}{own:Bool}{x:AB 8}(ha:AC T a= .c (.ptr b o))(hm:M[b]?=some (.row own (.a8 x)))(hr:BC P t=some false)(ho:o<x.length):AL P (AC T) M (.load t a)=some ((.c (.val (U8 (nth x o))))):=
 B9 ha hm hr ho rfl
theorem VL{t:TypeId}{a:Operand}{b o:Nat}{own:Bool}{x:AB 32}(ha:AC T a= .c (.ptr b o))(hm:M[b]?=some (.row own (.a32 x)))(hr:BC P t=some false)(ho:o<x.length):AL P (AC T) M (.load t a)=some ((.c (.val (FL (nth x o))))):=
 B9 ha hm hr ho rfl
theorem Iw{t:TypeId}{a:Operand}{b o:Nat}{own:Bool}{x:AB 64}(ha:AC T a= .c (.ptr b o))(hm:M[b]?=some (.row own (.a64 x)))(hr:BC P t=some false)(ho:o<x.length):AL P (AC T) M (.load t a)=some ((.c (.val (BW (nth x o))))):=
 B9 ha hm hr ho rfl
theorem JZ{t:TypeId}{a:Operand}{b o:Nat}{own:Bool}{x:List (Int)}(ha:AC T a= .c (.ptr b o))(hm:M[b]?=some (.row own (.ai x)))(hr:BC P t=some false)(ho:o<x.length):AL P (AC T) M (.load t a)=some ((.c (.val (.int .i64 (AX x o))))):=
 B9 ha hm hr ho rfl
theorem Bj{t:TypeId}{a:Operand}{b n:Nat}{own:Bool}{x:Arr}(ha:AC T a= .c (.ptr b 0))(hm:M[b]?=some (.row own x))(hr:BC P t=some true)(hs:De P t=some n)(hx:x.size=n)(h0:0<n):AL P (AC T) M (.load t a)=some ((.agg x)):=
 (by
  simp [AL,ha,hm,FK,hr,hs,hx,h0,Ft])
theorem Pp{t:TypeId}{a v:Operand}{b o:Nat}{x z:Arr}{c:Cell}(ha:AC T a= .c (.ptr b o))(hv:AC T v= .c c)(hm:M[b]?=some (.row true x))(h1:c.one=true)(hs:De P t=some 1)(ho:o<x.size)(hz:x.set o c=some z)(hM:M.set b (.row true z)=M')
  (hk:WO P k ops l ⟨N,T,M'⟩ K):WO P k ops (⟨none,.store t a v,ty,pos,af,none⟩::l) ⟨N,T,M⟩ K:=
 oY (v:= .c .any) (by
  simp [CP,Ic,ha,hv,hm,h1,hs,ho,hz,hM]) hk
theorem Bm{t:TypeId}{a v:Operand}{b:Nat}{x y:Arr}(ha:AC T a= .c (.ptr b 0))(hv:AC T v= .agg y)(hm:M[b]?=some (.row true x))(h1:y.one=true){n:Nat}(hs:De P t=some n)(hy:y.size=n)(hx:x.size=n)(hM:M.set b (.row true y)=M')
  (hk:WO P k ops l ⟨N,T,M'⟩ K) (hxm:x.isMap=false:=by rfl):WO P k ops (⟨none,.store t a v,ty,pos,af,none⟩::l) ⟨N,T,M⟩ K:=
 oY (v:= .c .any) (by
  simp [CP,Ic,ha,hv,hm,h1,hs,hx,hy,hM,hxm]) hk
theorem bE {t : TypeId} {a v : Operand} {b o : Nat} {x : AB 8} {w : BitVec 8} (ha : AC T a = .c (.ptr b o)) (hv : AC T v = .c (.val (U8 w))) (hm : M[b]? = some (.row true (.a8 x))) (hs : De P t = some 1) (ho : o < x.length) (hM : M.set b (.row true (.a8 (put x o w))) = M')
    (hk : WO P k ops l ⟨N, T, M'⟩ K) : WO P k ops (⟨none, .store t a v, ty, pos, af, none⟩ :: l) ⟨N, T, M⟩ K := Pp ha hv hm rfl hs ho (yJ x o w) hM hk
theorem Ls {t : TypeId} {a v : Operand} {b o : Nat} {x : AB 32} {w : BitVec 32} (ha : AC T a = .c (.ptr b o)) (hv : AC T v = .c (.val (FL w))) (hm : M[b]? = some (.row true (.a32 x))) (hs : De P t = some 1) (ho : o < x.length) (hM : M.set b (.row true (.a32 (put x o w))) = M')
    (hk : WO P k ops l ⟨N, T, M'⟩ K) : WO P k ops (⟨none, .store t a v, ty, pos, af, none⟩ :: l) ⟨N, T, M⟩ K := Pp ha hv hm rfl hs ho (vA x o w) hM hk
theorem XQ {t : TypeId} {a v : Operand} {b o : Nat} {x : AB 64} {w : BitVec 64} (ha : AC T a = .c (.ptr b o)) (hv : AC T v = .c (.val (BW w))) (hm : M[b]? = some (.row true (.a64 x))) (hs : De P t = some 1) (ho : o < x.length) (hM : M.set b (.row true (.a64 (put x o w))) = M')
    (hk : WO P k ops l ⟨N, T, M'⟩ K) : WO P k ops (⟨none, .store t a v, ty, pos, af, none⟩ :: l) ⟨N, T, M⟩ K := Pp ha hv hm rfl hs ho (pm x o w) hM hk
theorem pE {t : TypeId} {a v : Operand} {b o : Nat} {x : List (Int)} {w : Int} (ha : AC T a = .c (.ptr b o)) (hv : AC T v = .c (.val (.int .i64 w))) (hm : M[b]? = some (.row true (.ai x))) (hs : De P t = some 1) (ho : o < x.length) (hM : M.set b (.row true (.ai (XF x o w))) = M')
    (hk : WO P k ops l ⟨N, T, M'⟩ K) : WO P k ops (⟨none, .store t a v, ty, pos, af, none⟩ :: l) ⟨N, T, M⟩ K := Pp ha hv hm rfl hs ho (wI x o w) hM hk
theorem BO{t:TypeId}{x:Arr}{n:Nat}(hz:∀m,Cp P m t=some (.c (.ptr m.length 0),m++[.row true x]))(hn:M.length=n):CP P (AC T) M (.alloc t)=some (.c (.ptr n 0),M++[.row true x]):=by subst hn;exact hz M
theorem Xk{t:TypeId}{v:Operand}{x:Arr}{n:Nat}(hv:S5 (AC T v)=some x)(hn:M.length=n):CP P (AC T) M (.box t v)=some (.c (.ptr n 0),M++[.row true x]):=by
 show iX M (AC T v)=_
 subst hn
 simp only [iX,hv,Option.map_some]
theorem F3{s t:TypeId}{x:Operand}{k1 k2:IntKind}{a b:Int}{ds:TypeDesc}(hx:AC T x= .c (.val (.int k1 a)))(hs:P.underlying s=some ds)(ht:P.underlying t=some (.int k2))(h:k2.wrap a=b):AL P (AC T) M (.convert s t x)=some (.c (.val (.int k2 b))):=by
 show ap P s t (AC T x)=_
 rw [hx]
 simp only [ap,hs,ht,h]
theorem Bs{x:Operand}{i:Nat}{vs:List AV}{v:AV}(hx:AC T x= .tup vs)(hi:vs[i]?=some v):AL P (AC T) M (.extract x i)=some (v):=
 (by
  simp only [AL,hx,hi])
end
section
variable {P:Program} {k:Nat} {s s1:St} {a b:Code} {Φ:Ex→St→Prop}
theorem Aq{id:Nat}{l:List Oper}(h:WO P k l.toArray l s (Φ .normal)):WC P k (.region id l.toArray false) s Φ:=let ⟨r,h1,h2⟩:=h.h;⟨⟨.normal,r,Ev.region h1,h2⟩⟩
def ACR(P:Program)(k:Nat)(b:Code)(Φ:Ex→St→Prop):Ex→St→Prop
 |.normal,s=>WC P k b s Φ
 |e,s=>Φ e s
theorem vG(h:WC P k a s (ACR P k b Φ)):WC P k (.seq a b) s Φ:=by
 obtain ⟨e,r,h1,h2⟩:=h.h
 cases e with
 |normal=>obtain ⟨e',r',h3,h4⟩:=h2.h;exact ⟨⟨e',r',Ev.seq h1 h3,h4⟩⟩
 |exit id=>exact ⟨⟨_,r,Ev.seqx h1 (by simp),h2⟩⟩
 |ret=>exact ⟨⟨_,r,Ev.seqx h1 (by simp),h2⟩⟩
theorem nw(h:Φ .normal s):WC P k .skip s Φ:=⟨⟨_,_,Ev.cskip,h⟩⟩
theorem ga{l:Nat}(h:Φ .normal s):WC P k (.label l) s Φ:=⟨⟨_,_,Ev.label,h⟩⟩
theorem yM{id:Nat}(h:Φ (.exit id) s):WC P k (.exit id) s Φ:=⟨⟨_,_,Ev.exit,h⟩⟩
theorem zZ(h:Φ .ret s):WC P k .ret s Φ:=⟨⟨_,_,Ev.ret,h⟩⟩
theorem jM(h:WC P k a s Φ):WC P k (.scope a) s Φ:=let ⟨e,r,h1,h2⟩:=h.h;⟨⟨e,r,Ev.scope h1,h2⟩⟩
def mX(id:Nat)(Φ:Ex→St→Prop):Ex→St→Prop
 |.exit i,s=>if i=id then Φ .normal s else Φ (.exit i) s
 |e,s=>Φ e s
theorem jj{id:Nat}(h:WC P k a s (mX id Φ)):WC P k (.block id a) s Φ:=by
 obtain ⟨e,r,h1,h2⟩:=h.h
 refine ⟨⟨_,r,Ev.block h1,?_⟩⟩
 cases e with
 |normal=>exact h2
 |ret=>exact h2
 |exit i=>
  simp only [mX,Ex.block] at h2 ⊢
  split
  ·rename_i e;rw [if_pos e] at h2;exact h2
  ·rename_i e;rw [if_neg e] at h2;exact h2
theorem Ef{c:Operand}{t:Bool}(hc:AC s.t c= .c (.val (.bool t)))(ht:t=true)(h:WC P k a s Φ):WC P k (.cond c a b) s Φ:=let ⟨e,r,h1,h2⟩:=h.h;⟨⟨e,r,Ev.cond true (by rw [hc,ht]) h1,h2⟩⟩
theorem Bu{c:Operand}{t:Bool}(hc:AC s.t c= .c (.val (.bool t)))(ht:t=false)(h:WC P k b s Φ):WC P k (.cond c a b) s Φ:=let ⟨e,r,h1,h2⟩:=h.h;⟨⟨e,r,Ev.cond false (by rw [hc,ht]) h1,h2⟩⟩
theorem U9(keep:List Nat)(hc:clean k keep s=some s1)(h:WC P k a s1 Φ):WC P k a s Φ:=let ⟨e,r,h1,h2⟩:=h.h;⟨⟨e,r,Ev.clean keep hc h1,h2⟩⟩
def Vg(k:Nat)(keep:List Nat){σ:Type}(I:σ→St)(y:σ):Ex→St→Prop
 |.normal,s=> ∃x,clean k keep s=some (I x)∧x=y
 |_,_=>False
def AAH(Φ:Ex→St→Prop):Ex→St→Prop
 |.normal,_=>False
 |e,s=>Φ e s
theorem fE(keep:List Nat){σ:Type}(I:σ→St)(f:Nat→σ)(n:Nat){c:Code}{s0:St}(h0:s0=I (f 0))(hstep:∀j,j<n→WC P k c (I (f j)) (Vg k keep I (f (j+1))))(hend:WC P k c (I (f n)) (AAH Φ)):WC P k (.loop c) s0 Φ:=by
 subst h0
 have key:∀d j,j+d=n→WC P k (.loop c) (I (f j)) Φ:=by
  intro d
  induction d with
  |zero=>
   intro j hj
   obtain rfl:j=n:=by omega
   obtain ⟨e,r,h1,h2⟩:=hend.h
   cases e with
   |normal=>exact h2.elim
   |exit id=>exact ⟨⟨_,r,Ev.loopx h1 (by simp),h2⟩⟩
   |ret=>exact ⟨⟨_,r,Ev.loopx h1 (by simp),h2⟩⟩
  |succ d ih=>
   intro j hj
   obtain ⟨e,r,h1,h2⟩:=(hstep j O_).h
   cases e with
   |normal=>
    obtain ⟨x,h3,rfl⟩:=h2
    obtain ⟨e',r',h4,h5⟩:=(ih (j+1) O_).h
    exact ⟨⟨e',r',Ev.loop h1 (Ev.clean keep h3 h4),h5⟩⟩
   |exit id=>exact h2.elim
   |ret=>exact h2.elim
 exact key n 0 O_
theorem AU(keep:List Nat){σ:Type}(I:σ→St)(f:Nat→σ)(n:Nat){c:Code}{s0:St}(h0:clean k keep s0=some (I (f 0)))(hstep:∀j,j<n→WC P k c (I (f j)) (Vg k keep I (f (j+1))))(hend:WC P k c (I (f n)) (AAH Φ)):WC P k (.loop c) s0 Φ:=
 U9 keep h0 (fE keep I f n rfl hstep hend)
theorem I1(keep:List Nat){σ:Type}(I:σ→St)(y:σ){c:Operand}{t:Bool}(hc:AC s.t c= .c (.val (.bool t)))(ha:t=true→WC P k a s (Vg k keep I y))(hb:t=false→WC P k b s (Vg k keep I y))(h:Φ .normal (I y)):WC P k (.cond c a b) s Φ:=by
 cases t with
 |true=>
  obtain ⟨e,r,h1,h2⟩:=(ha rfl).h
  cases e with
  |normal=>obtain ⟨x,h3,rfl⟩:=h2;exact ⟨⟨_,_,Ev.tidy keep (Ev.cond true hc h1) h3,h⟩⟩
  |exit id=>exact h2.elim
  |ret=>exact h2.elim
 |false=>
  obtain ⟨e,r,h1,h2⟩:=(hb rfl).h
  cases e with
  |normal=>obtain ⟨x,h3,rfl⟩:=h2;exact ⟨⟨_,_,Ev.tidy keep (Ev.cond false hc h1) h3,h⟩⟩
  |exit id=>exact h2.elim
  |ret=>exact h2.elim
def XW(P:Program)(n:Nat)(rs:List ResultVar)(v:AV)(m':Ak):Ex→St→Prop
 |.exit _,_=>False
 |_,s=> ∃vs ids,Gk P s rs=some vs∧canon n [uL vs] s.m=some ([v],m',ids)
theorem AG{f:FuncId}{fn:Func}{c:Code}{args:List AV}{m m':Ak}{v:AV}{N n:Nat}(hf:P.funcs[f]?=some fn)(hb:fn.body=some c)(hN:fn.ntmps=N)(hn:Nat.ble args.length N=true)(hm:m.length=n)
  (h:WC P n c ⟨N,tN args,m⟩ (XW P n fn.results.toList v m')):Ev P (.call f args m) (.val v m'):=by
 subst hm;subst hN
 obtain ⟨e,r,h1,h2⟩:=h.h
 cases e with
 |exit id=>exact h2.elim
 |normal=>obtain ⟨vs,ids,h3,h4⟩:=h2;exact Ev.call hf hb (Nat.le_of_ble_eq_true hn) h1 (.inl rfl) h3 h4
 |ret=>obtain ⟨vs,ids,h3,h4⟩:=h2;exact Ev.call hf hb (Nat.le_of_ble_eq_true hn) h1 (.inr rfl) h3 h4
end
theorem JR{P:Program}{s:St}{a:Tmp}{ty:TypeId}{b n:Nat}{own:Bool}{x:Arr}(ha:s.t a= .c (.ptr b 0))(hm:s.m[b]?=some (.row own x))(hr:BC P ty=some true)(hs:De P ty=some n)(hx:x.size=n)(h0:0<n):He P s (.cell a ty)=some (.agg x):=by
 simp [He,ha,hm,FK,hr,hs,hx,h0,Ft]
theorem EG{P:Program}{s:St}{t:Tmp}{c:Cell}(h:s.t t= .c c):He P s (.tmp t)=some (.c c):=by simp [He,h]
def kp(n:Nat)(v:AV)(m:Ak):Option (List AV×Ak):=(canon n [v] m).map fun r=>(r.1,r.2.1)
theorem QA{n:Nat}{v v':AV}{m m':Ak}(h:kp n v m=some ([v'],m')):∃ids,canon n [v] m=some ([v'],m',ids):=by
 unfold kp at h
 obtain ⟨⟨a,b,c⟩,h1,h2⟩:=Option.map_eq_some_iff.1 h
 simp only [Prod.mk.injEq] at h2
 obtain ⟨rfl,rfl⟩:=h2
 exact ⟨c,h1⟩
theorem gw{P:Program}{n:Nat}{s:St}{r1:ResultVar}{v1 v:AV}{m':Ak}(h1:He P s r1=some v1)(hc:kp n v1 s.m=some ([v],m')):XW P n [r1] v m' .ret s:=let ⟨ids,h⟩:=QA hc;⟨[v1],ids,by simp [Gk,h1],h⟩
theorem sU{P:Program}{n:Nat}{s:St}{r1 r2:ResultVar}{v1 v2 v:AV}{m':Ak}(h1:He P s r1=some v1)(h2:He P s r2=some v2)(hc:kp n (.tup [v1,v2]) s.m=some ([v],m')):XW P n [r1,r2] v m' .ret s:=let ⟨ids,h⟩:=QA hc;⟨[v1,v2],ids,by simp [Gk,h1,h2],h⟩
theorem k_3{P:Program}{n:Nat}{s:St}{r1 r2 r3:ResultVar}{v1 v2 v3 v:AV}{m':Ak}(h1:He P s r1=some v1)(h2:He P s r2=some v2)(h3:He P s r3=some v3)(hc:kp n (.tup [v1,v2,v3]) s.m=some ([v],m')):XW P n [r1,r2,r3] v m' .ret s:=let ⟨ids,h⟩:=QA hc;⟨[v1,v2,v3],ids,by simp [Gk,h1,h2,h3],h⟩
section
variable {t:TypeId}
theorem ABu{a b:Int}(h: -9223372036854775808≤a+b∧a+b≤9223372036854775807):binOp .add t (.int .i64 a) (.int .i64 b)=(pure (.int .i64 (a+b)):Sem Value):=by
 show (pure (Value.int .i64 (IntKind.i64.wrap (a+b))):Sem Value)=_
 rw [IntWalk.i64_in _ O_]
theorem zb{a b:Int}(h: -9223372036854775808≤a-b∧a-b≤9223372036854775807):binOp .sub t (.int .i64 a) (.int .i64 b)=(pure (.int .i64 (a-b)):Sem Value):=by
 show (pure (Value.int .i64 (IntKind.i64.wrap (a-b))):Sem Value)=_
 rw [IntWalk.i64_in _ O_]
theorem ACK{a b:Int}(h: -9223372036854775808≤a*b∧a*b≤9223372036854775807):binOp .mul t (.int .i64 a) (.int .i64 b)=(pure (.int .i64 (a*b)):Sem Value):=by
 show (pure (Value.int .i64 (IntKind.i64.wrap (a*b))):Sem Value)=_
 rw [IntWalk.i64_in _ O_]
theorem AAt{a b:Int}:binOp .lss t (.int .i64 a) (.int .i64 b)=(pure (.bool (decide (a<b))):Sem Value):=rfl
theorem ABp{a b:Int}:binOp .leq t (.int .i64 a) (.int .i64 b)=(pure (.bool (decide (a≤b))):Sem Value):=rfl
theorem zy{a b:Int}:binOp .gtr t (.int .i64 a) (.int .i64 b)=(pure (.bool (decide (b<a))):Sem Value):=rfl
theorem zU{a b:Int}:binOp .geq t (.int .i64 a) (.int .i64 b)=(pure (.bool (decide (b≤a))):Sem Value):=rfl
theorem ABK{a b:Int}:binOp .eql t (.int .i64 a) (.int .i64 b)=(pure (.bool (a==b)):Sem Value):=rfl
theorem zo{a b:Int}:binOp .neq t (.int .i64 a) (.int .i64 b)=(pure (.bool (a !=b)):Sem Value):=rfl
theorem addN{a b:Nat}(h:a+b≤9223372036854775807):binOp .add t (.int .i64 (a:Int)) (.int .i64 (b:Int))=(pure (.int .i64 ((a+b:Nat):Int)):Sem Value):=ABu O_
theorem AB7{a b:Nat}(h:b≤a)(h2:a≤9223372036854775807):binOp .sub t (.int .i64 (a:Int)) (.int .i64 (b:Int))=(pure (.int .i64 ((a-b:Nat):Int)):Sem Value):=by
 rw [zb O_];congr 2;omega
theorem mulN{a b:Nat}(h:a*b≤9223372036854775807):binOp .mul t (.int .i64 (a:Int)) (.int .i64 (b:Int))=(pure (.int .i64 ((a*b:Nat):Int)):Sem Value):=by
 rw [ACK (by rw [←Int.natCast_mul];omega)];rfl
theorem ACF{a b:Nat}(h:0<b)(h2:a≤9223372036854775807):binOp .quo t (.int .i64 (a:Int)) (.int .i64 (b:Int))=(pure (.int .i64 ((a/b:Nat):Int)):Sem Value):=by
 rw [binOp_quo,Op.intDiv,if_neg O_]
 show (pure (Value.int .i64 (IntKind.i64.wrap ((a/b:Nat):Int))):Sem Value)=_
 have hle:=Nat.div_le_self a b
 generalize a/b=q at*
 rw [IntWalk.i64_in _ O_]
theorem ABn{a b:Nat}(h:0<b)(_h2:a≤9223372036854775807):binOp .rem t (.int .i64 (a:Int)) (.int .i64 (b:Int))=(pure (.int .i64 ((a%b:Nat):Int)):Sem Value):=by
 rw [binOp_rem,Op.intDiv,if_neg O_]
 rfl
theorem ABc{a b:Nat}:binOp .lss t (.int .i64 (a:Int)) (.int .i64 (b:Int))=(pure (.bool (decide (a<b))):Sem Value):=by
 rw [AAt];congr 2;exact decide_eq_decide.2 O_
theorem ACE{a b:Nat}:binOp .leq t (.int .i64 (a:Int)) (.int .i64 (b:Int))=(pure (.bool (decide (a≤b))):Sem Value):=by
 rw [ABp];congr 2;exact decide_eq_decide.2 O_
theorem ACZ{a b:Nat}:binOp .gtr t (.int .i64 (a:Int)) (.int .i64 (b:Int))=(pure (.bool (decide (b<a))):Sem Value):=by
 rw [zy];congr 2;exact decide_eq_decide.2 O_
theorem ACD{a b:Nat}:binOp .geq t (.int .i64 (a:Int)) (.int .i64 (b:Int))=(pure (.bool (decide (b≤a))):Sem Value):=by
 rw [zU];congr 2;exact decide_eq_decide.2 O_
theorem AB6{a b:Nat}:binOp .eql t (.int .i64 (a:Int)) (.int .i64 (b:Int))=(pure (.bool (decide (a=b))):Sem Value):=by
 rw [ABK];congr 2;rw [Bool.eq_iff_iff];simp;omega
theorem ACQ{a b:Nat}:binOp .neq t (.int .i64 (a:Int)) (.int .i64 (b:Int))=(pure (.bool (!decide (a=b))):Sem Value):=by
 rw [zo];congr 2;rw [Bool.eq_iff_iff];simp;omega
theorem xg{x:BitVec 64}{kd:IntKind}{n:Nat}:binOp .shl t (BW x) (.int kd (n:Int))=(pure (BW (x<<<n)):Sem Value):=by rw [uW x kd n O_,Int.toNat_natCast]
theorem yr{x:BitVec 64}{kd:IntKind}{n:Nat}:binOp .shr t (BW x) (.int kd (n:Int))=(pure (BW (x>>>n)):Sem Value):=by rw [vO x kd n O_,Int.toNat_natCast]
theorem wY{x:BitVec 32}{kd:IntKind}{n:Nat}:binOp .shr t (FL x) (.int kd (n:Int))=(pure (FL (x>>>n)):Sem Value):=by rw [uo x kd n O_,Int.toNat_natCast]
theorem AAY{x:BitVec 8}{kd:IntKind}{n:Nat}:binOp .shl t (U8 x) (.int kd (n:Int))=(pure (U8 (x<<<n)):Sem Value):=by rw [ABj x kd n O_,Int.toNat_natCast]
theorem AA1{x:BitVec 8}{kd:IntKind}{n:Nat}:binOp .shr t (U8 x) (.int kd (n:Int))=(pure (U8 (x>>>n)):Sem Value):=by rw [ACW x kd n O_,Int.toNat_natCast]
theorem uu(x:BitVec 8):IntKind.u64.wrap (tn x)=tn (x.setWidth 64):=by rw [FG];unfold tn;rw [EW]
theorem yQ(x:BitVec 64):IntKind.u32.wrap (tn x)=tn (x.setWidth 32):=by rw [Hz];unfold tn;rw [EW]
theorem pU(x:BitVec 64):IntKind.u8.wrap (tn x)=tn (x.setWidth 8):=by rw [Na];unfold tn;rw [EW]
theorem vM(x:BitVec 32):IntKind.u8.wrap (tn x)=tn (x.setWidth 8):=by rw [Na];unfold tn;rw [EW]
theorem iQ(n:Nat):IntKind.u64.wrap (n:Int)=tn (BitVec.ofNat 64 n):=by rw [FG,BitVec.ofInt_natCast];rfl
theorem AAL(n:Nat):IntKind.u32.wrap (n:Int)=tn (BitVec.ofNat 32 n):=by rw [Hz,BitVec.ofInt_natCast];rfl
theorem ACJ(n:Nat):IntKind.u8.wrap (n:Int)=tn (BitVec.ofNat 8 n):=by rw [Na,BitVec.ofInt_natCast];rfl
theorem ACa(x:BitVec 8):IntKind.i64.wrap (tn x)=((x.toNat:Nat):Int):=IntWalk.i64_in _ (by unfold tn;have:=x.isLt;omega)
end
section
variable {P:Program} {k N:Nat} {ops:Array Oper} {d:Nat} {ty:TypeId} {pos:String} {af:Array Edge} {l:List Oper} {T:Nat→AV} {M:Ak} {K:St→Prop} {t t':TypeId} {x y:Operand}
theorem U1{a b:BitVec 64}(hx:AC T x= .c (.val (BW a)))(hy:AC T y= .c (.val (BW b))):AL P (AC T) M (.binOp .add t x y t')=some ((.c (.val (BW (a+b))))):=
 B2 hx hy (add64 a b)
theorem aF{a b:BitVec 64}(hx:AC T x= .c (.val (BW a)))(hy:AC T y= .c (.val (BW b))):AL P (AC T) M (.binOp .sub t x y t')=some ((.c (.val (BW (a-b))))):=
 B2 hx hy (sub64 a b)
theorem Fo{a b:BitVec 64}(hx:AC T x= .c (.val (BW a)))(hy:AC T y= .c (.val (BW b))):AL P (AC T) M (.binOp .and t x y t')=some ((.c (.val (BW (a&&&b))))):=
 B2 hx hy (zu a b)
theorem Vp{a b:BitVec 64}(hx:AC T x= .c (.val (BW a)))(hy:AC T y= .c (.val (BW b))):AL P (AC T) M (.binOp .or t x y t')=some ((.c (.val (BW (a ||| b))))):=
 B2 hx hy (ACb a b)
theorem jX{a b:BitVec 64}(hx:AC T x= .c (.val (BW a)))(hy:AC T y= .c (.val (BW b))):AL P (AC T) M (.binOp .xor t x y t')=some ((.c (.val (BW (a^^^b))))):=
 B2 hx hy (AAz a b)
theorem HU{a b:BitVec 64}(hx:AC T x= .c (.val (BW a)))(hy:AC T y= .c (.val (BW b))):AL P (AC T) M (.binOp .mul t x y t')=some ((.c (.val (BW (a*b))))):=
 B2 hx hy (ABN a b)
theorem Rf{a b:BitVec 32}(hx:AC T x= .c (.val (FL a)))(hy:AC T y= .c (.val (FL b))):AL P (AC T) M (.binOp .add t x y t')=some ((.c (.val (FL (a+b))))):=
 B2 hx hy (zi a b)
theorem SF{a b:BitVec 32}(hx:AC T x= .c (.val (FL a)))(hy:AC T y= .c (.val (FL b))):AL P (AC T) M (.binOp .and t x y t')=some ((.c (.val (FL (a&&&b))))):=
 B2 hx hy (zw a b)
theorem yS{a b:BitVec 32}(hx:AC T x= .c (.val (FL a)))(hy:AC T y= .c (.val (FL b))):AL P (AC T) M (.binOp .or t x y t')=some ((.c (.val (FL (a ||| b))))):=
 B2 hx hy (ACM a b)
theorem Pd{a b:BitVec 32}(hx:AC T x= .c (.val (FL a)))(hy:AC T y= .c (.val (FL b))):AL P (AC T) M (.binOp .xor t x y t')=some ((.c (.val (FL (a^^^b))))):=
 B2 hx hy (zY a b)
theorem Sv{a b:BitVec 8}(hx:AC T x= .c (.val (U8 a)))(hy:AC T y= .c (.val (U8 b))):AL P (AC T) M (.binOp .sub t x y t')=some ((.c (.val (U8 (a-b))))):=
 B2 hx hy (AB9 a b)
theorem Ng{a b:BitVec 8}(hx:AC T x= .c (.val (U8 a)))(hy:AC T y= .c (.val (U8 b))):AL P (AC T) M (.binOp .and t x y t')=some ((.c (.val (U8 (a&&&b))))):=
 B2 hx hy (ABx a b)
theorem bO{a b:BitVec 8}(hx:AC T x= .c (.val (U8 a)))(hy:AC T y= .c (.val (U8 b))):AL P (AC T) M (.binOp .or t x y t')=some ((.c (.val (U8 (a ||| b))))):=
 B2 hx hy (or8 a b)
theorem V6{a b:BitVec 8}(hx:AC T x= .c (.val (U8 a)))(hy:AC T y= .c (.val (U8 b))):AL P (AC T) M (.binOp .xor t x y t')=some ((.c (.val (U8 (a^^^b))))):=
 B2 hx hy (ABt a b)
theorem CA{a:BitVec 64}{kd:IntKind}{j:Nat}(hx:AC T x= .c (.val (BW a)))(hy:AC T y= .c (.val (.int kd (j:Int)))):AL P (AC T) M (.binOp .shl t x y t')=some ((.c (.val (BW (a<<<j))))):=
 B2 hx hy (xg)
theorem CY{a:BitVec 64}{kd:IntKind}{j:Nat}(hx:AC T x= .c (.val (BW a)))(hy:AC T y= .c (.val (.int kd (j:Int)))):AL P (AC T) M (.binOp .shr t x y t')=some ((.c (.val (BW (a>>>j))))):=
 B2 hx hy (yr)
theorem SM{a:BitVec 32}{kd:IntKind}{j:Nat}(hx:AC T x= .c (.val (FL a)))(hy:AC T y= .c (.val (.int kd (j:Int)))):AL P (AC T) M (.binOp .shr t x y t')=some ((.c (.val (FL (a>>>j))))):=
 B2 hx hy (wY)
theorem aD{a:BitVec 8}{kd:IntKind}{j:Nat}(hx:AC T x= .c (.val (U8 a)))(hy:AC T y= .c (.val (.int kd (j:Int)))):AL P (AC T) M (.binOp .shl t x y t')=some ((.c (.val (U8 (a<<<j))))):=
 B2 hx hy (AAY)
theorem RX{a:BitVec 8}{kd:IntKind}{j:Nat}(hx:AC T x= .c (.val (U8 a)))(hy:AC T y= .c (.val (.int kd (j:Int)))):AL P (AC T) M (.binOp .shr t x y t')=some ((.c (.val (U8 (a>>>j))))):=
 B2 hx hy (AA1)
theorem oT{a:BitVec 64}{b:BitVec 64}(hx:AC T x= .c (.val (BW a)))(hy:AC T y= .c (.val (BW b))):AL P (AC T) M (.binOp .shl t x y t')=some ((.c (.val (BW (a<<<b.toNat))))):=
 B2 hx hy (wG a b)
theorem da{a:BitVec 64}{b:BitVec 64}(hx:AC T x= .c (.val (BW a)))(hy:AC T y= .c (.val (BW b))):AL P (AC T) M (.binOp .shr t x y t')=some ((.c (.val (BW (a>>>b.toNat))))):=
 B2 hx hy (we a b)
theorem ql{a:BitVec 32}{b:BitVec 64}(hx:AC T x= .c (.val (FL a)))(hy:AC T y= .c (.val (BW b))):AL P (AC T) M (.binOp .shl t x y t')=some ((.c (.val (FL (a<<<b.toNat))))):=
 B2 hx hy (yV a b)
theorem pr{a:BitVec 32}{b:BitVec 64}(hx:AC T x= .c (.val (FL a)))(hy:AC T y= .c (.val (BW b))):AL P (AC T) M (.binOp .shr t x y t')=some ((.c (.val (FL (a>>>b.toNat))))):=
 B2 hx hy (xW a b)
theorem sp{a b:BitVec 64}(hx:AC T x= .c (.val (BW a)))(hy:AC T y= .c (.val (BW b))):AL P (AC T) M (.binOp .eql t x y t')=some ((.c (.val (.bool (a==b))))):=
 B2 hx hy (zq a b)
theorem aK{a b:BitVec 8}(hx:AC T x= .c (.val (U8 a)))(hy:AC T y= .c (.val (U8 b))):AL P (AC T) M (.binOp .eql t x y t')=some ((.c (.val (.bool (a==b))))):=
 B2 hx hy (ACT a b)
theorem xj{a b:BitVec 8}(hx:AC T x= .c (.val (U8 a)))(hy:AC T y= .c (.val (U8 b))):AL P (AC T) M (.binOp .neq t x y t')=some ((.c (.val (.bool (a !=b))))):=
 B2 hx hy (ACI a b)
theorem BA{a b:Nat}(hx:AC T x= .c (.val (.int .i64 (a:Int))))(hy:AC T y= .c (.val (.int .i64 (b:Int)))):AL P (AC T) M (.binOp .lss t x y t')=some ((.c (.val (.bool (decide (a<b)))))):=
 B2 hx hy (ABc)
theorem eZ{a b:Nat}(hx:AC T x= .c (.val (.int .i64 (a:Int))))(hy:AC T y= .c (.val (.int .i64 (b:Int)))):AL P (AC T) M (.binOp .leq t x y t')=some ((.c (.val (.bool (decide (a≤b)))))):=
 B2 hx hy (ACE)
theorem Fd{a b:Nat}(hx:AC T x= .c (.val (.int .i64 (a:Int))))(hy:AC T y= .c (.val (.int .i64 (b:Int)))):AL P (AC T) M (.binOp .gtr t x y t')=some ((.c (.val (.bool (decide (b<a)))))):=
 B2 hx hy (ACZ)
theorem Mn{a b:Nat}(hx:AC T x= .c (.val (.int .i64 (a:Int))))(hy:AC T y= .c (.val (.int .i64 (b:Int)))):AL P (AC T) M (.binOp .geq t x y t')=some ((.c (.val (.bool (decide (b≤a)))))):=
 B2 hx hy (ACD)
theorem Cm{a b:Nat}(hx:AC T x= .c (.val (.int .i64 (a:Int))))(hy:AC T y= .c (.val (.int .i64 (b:Int)))):AL P (AC T) M (.binOp .eql t x y t')=some ((.c (.val (.bool (decide (a=b)))))):=
 B2 hx hy (AB6)
theorem EE{a b:Nat}(hx:AC T x= .c (.val (.int .i64 (a:Int))))(hy:AC T y= .c (.val (.int .i64 (b:Int)))):AL P (AC T) M (.binOp .neq t x y t')=some ((.c (.val (.bool (!decide (a=b)))))):=
 B2 hx hy (ACQ)
theorem EH{a b:Nat}(hx:AC T x= .c (.val (.int .i64 (a:Int))))(hy:AC T y= .c (.val (.int .i64 (b:Int))))(h:a+b≤9223372036854775807):AL P (AC T) M (.binOp .add t x y t')=some ((.c (.val (.int .i64 ((a+b:Nat):Int))))):=
 B2 hx hy (addN h)
theorem Fg{a b:Nat}(hx:AC T x= .c (.val (.int .i64 (a:Int))))(hy:AC T y= .c (.val (.int .i64 (b:Int))))(h:b≤a)(h2:a≤9223372036854775807):AL P (AC T) M (.binOp .sub t x y t')=some ((.c (.val (.int .i64 ((a-b:Nat):Int))))):=
 B2 hx hy (AB7 h h2)
theorem K4{a b:Nat}(hx:AC T x= .c (.val (.int .i64 (a:Int))))(hy:AC T y= .c (.val (.int .i64 (b:Int))))(h:a*b≤9223372036854775807):AL P (AC T) M (.binOp .mul t x y t')=some ((.c (.val (.int .i64 ((a*b:Nat):Int))))):=
 B2 hx hy (mulN h)
theorem Sq{a b:Nat}(hx:AC T x= .c (.val (.int .i64 (a:Int))))(hy:AC T y= .c (.val (.int .i64 (b:Int))))(h:0<b)(h2:a≤9223372036854775807):AL P (AC T) M (.binOp .quo t x y t')=some ((.c (.val (.int .i64 ((a/b:Nat):Int))))):=
 B2 hx hy (ACF h h2)
theorem HM{a b:Nat}(hx:AC T x= .c (.val (.int .i64 (a:Int))))(hy:AC T y= .c (.val (.int .i64 (b:Int))))(h:0<b)(h2:a≤9223372036854775807):AL P (AC T) M (.binOp .rem t x y t')=some ((.c (.val (.int .i64 ((a%b:Nat):Int))))):=
 B2 hx hy (ABn h h2)
theorem S8{a b:Int}(hx:AC T x= .c (.val (.int .i64 a)))(hy:AC T y= .c (.val (.int .i64 b))):AL P (AC T) M (.binOp .lss t x y t')=some ((.c (.val (.bool (decide (a<b)))))):=
 B2 hx hy (AAt)
theorem yd{a b:Int}(hx:AC T x= .c (.val (.int .i64 a)))(hy:AC T y= .c (.val (.int .i64 b))):AL P (AC T) M (.binOp .gtr t x y t')=some ((.c (.val (.bool (decide (b<a)))))):=
 B2 hx hy (zy)
theorem ek{a b:Int}(hx:AC T x= .c (.val (.int .i64 a)))(hy:AC T y= .c (.val (.int .i64 b))):AL P (AC T) M (.binOp .geq t x y t')=some ((.c (.val (.bool (decide (b≤a)))))):=
 B2 hx hy (zU)
theorem vq{a b:Int}(hx:AC T x= .c (.val (.int .i64 a)))(hy:AC T y= .c (.val (.int .i64 b)))(h: -9223372036854775808≤a-b∧a-b≤9223372036854775807):AL P (AC T) M (.binOp .sub t x y t')=some ((.c (.val (.int .i64 (a-b))))):=
 B2 hx hy (zb h)
end
section
variable {t:TypeId}
theorem wt(x y:BitVec 64):binOp .gtr t (BW x) (BW y)=(pure (.bool (decide (y.toNat<x.toNat))):Sem Value):=by
 show (pure (Value.bool (decide ((y.toNat:Int)<(x.toNat:Int)))):Sem Value)=_
 congr 2;exact decide_eq_decide.2 O_
theorem vN(i:Int):IntKind.u64.wrap i=tn (BitVec.ofInt 64 i):=FG i
end
section
variable {P:Program} {k N:Nat} {ops:Array Oper} {d:Nat} {ty:TypeId} {pos:String} {af:Array Edge} {l0:List Oper} {T:Nat→AV} {M M':Ak} {K:St→Prop} {t t':TypeId} {x y:Operand}
theorem ig{a b:BitVec 64}(hx:AC T x= .c (.val (BW a)))(hy:AC T y= .c (.val (BW b))):AL P (AC T) M (.binOp .gtr t x y t')=some (.c (.val (.bool (decide (b.toNat<a.toNat))))):=B2 hx hy (wt a b)
def UV(l:List Nat):List Int:=l.map Int.ofNat
def xm(l:List Nat)(i:Nat):Nat:=l.getD i 0
def AAy(l:List Nat)(i v:Nat):List Nat:=l.set i v
theorem cO(l:List Nat):(UV l).length=l.length:=by simp [UV]
@[simp] theorem bf(l:List Nat)(i v:Nat):(AAy l i v).length=l.length:=by simp [AAy]
theorem kM(l:List Nat)(i:Nat):AX (UV l) i=((xm l i:Nat):Int):=by
 unfold AX UV xm
 simp only [List.getD_eq_getElem?_getD,List.getElem?_map]
 cases l[i]?<;>rfl
theorem Mc{a:Operand}{b o:Nat}{own:Bool}{x:List Nat}(ha:AC T a= .c (.ptr b o))(hm:M[b]?=some (.row own (.ai (UV x))))(hr:BC P t=some false)(ho:o<x.length):AL P (AC T) M (.load t a)=some (.c (.val (.int .i64 ((xm x o:Nat):Int)))):=by
 rw [JZ ha hm hr (by rw [cO];exact ho),kM]
end
section
variable {P:Program} {k N:Nat} {ops:Array Oper} {d:Nat} {ty:TypeId} {pos:String} {af:Array Edge} {l0:List Oper} {T:Nat→AV} {M M':Ak} {K:St→Prop} {t t':TypeId}
theorem JL{x:Operand}{b o n cap sz el:Nat}(hx:AC T x= .c (.sl b o n cap sz))(hu:P.underlying t=some (.slice el)):AL P (AC T) M (.call { callee:= .builtin .len,args:= #[x],argTypes:= #[t] })=some (.c (.val (.int .i64 (n:Int)))):=by
 show Se P t (AC T x)=_
 rw [hx];simp [Se,DV,hu]
theorem aW{x y:Operand}{ts:Array TypeId}{a b:Nat}(hx:AC T x= .c (.val (.int .i64 (a:Int))))(hy:AC T y= .c (.val (.int .i64 (b:Int)))):AL P (AC T) M (.call { callee:= .builtin .min,args:= #[x,y],argTypes:=ts })=some (.c (.val (.int .i64 ((min a b:Nat):Int)))):=by
 show bD [AC T x,AC T y]=_
 rw [hx,hy];simp only [bD,if_true]
 congr 4
 split<;>omega
theorem TT{x:Operand}{n el b o len cap sz:Nat}(hx:AC T x= .c (.sl b o len cap sz))(hu:P.underlying t=some (.array n el))(h1:n≤len)(h0:0<n):AL P (AC T) M (.sliceToArrayPointer t x)=some (.c (.ptr b o)):=by
 show L9 P t (AC T x)=_
 rw [hx];simp [L9,hu,h1,h0]
theorem AAC{x:Operand}{lo hi:Option Operand}{n el b o sz l h:Nat}{own:Bool}{y:Arr}(hx:AC T x= .c (.ptr b o))(hu:P.underlying t=some (.array n el))(hs:De P el=some sz)(hm:M[b]?=some (.row own y))
  (hl:QO 0 (lo.map (AC T))=some (l:Int)) (hh:QO n (hi.map (AC T))=some (h:Int)) (h1:l≤h) (h2:h≤n) (hf:o+n*sz≤y.size):AL P (AC T) M (.slice t x lo hi none)=some (.c (.sl b (o+l*sz) (h-l) (n-l) sz)):=by
 show HP P M t (AC T x) (lo.map (AC T)) (hi.map (AC T))=_
 rw [hx]
 simp only [HP,hu,hs,hl,hh,hm]
 rw [if_pos ⟨by omega,by omega,by omega,hf⟩]
 congr 3<;>omega
theorem Gz{x:Operand}{lo hi:Option Operand}{n el b l h len cp:Nat}{own:Bool}{y:Arr}(hx:AC T x= .c (.ptr b 0))(hu:P.underlying t=some (.array n el))(hs:De P el=some 1)(hm:M[b]?=some (.row own y))
  (hl:QO 0 (lo.map (AC T))=some (l:Int)) (hh:QO n (hi.map (AC T))=some (h:Int)) (h1:l≤h) (h2:h≤n) (hf:n≤y.size) (hlen:h-l=len) (hcp:n-l=cp):AL P (AC T) M (.slice t x lo hi none)=some (.c (.sl b l len cp 1)):=by
 subst hlen;subst hcp
 rw [AAC hx hu hs hm hl hh h1 h2 O_,Nat.zero_add,Nat.mul_one]
theorem qj{x:Operand}{lo hi:Option Operand}{el b o sz len cap l h:Nat}(hx:AC T x= .c (.sl b o len cap sz))(hu:P.underlying t=some (.slice el))(hs:De P el=some sz)
  (hl:QO 0 (lo.map (AC T))=some (l:Int)) (hh:QO len (hi.map (AC T))=some (h:Int)) (h1:l≤h) (h2:h≤max len cap):AL P (AC T) M (.slice t x lo hi none)=some (.c (.sl b (o+l*sz) (h-l) (cap-l) sz)):=by
 show HP P M t (AC T x) (lo.map (AC T)) (hi.map (AC T))=_
 rw [hx]
 simp only [HP,hu,hl,hh]
 rw [if_pos ⟨hs,by omega,by omega,by omega⟩]
 congr 3<;>omega
theorem Zh{x:Operand}{lo hi:Option Operand}{el b len cap l h:Nat}(hx:AC T x= .c (.sl b 0 len cap 1))(hu:P.underlying t=some (.slice el))(hs:De P el=some 1)
  (hl:QO 0 (lo.map (AC T))=some (l:Int)) (hh:QO len (hi.map (AC T))=some (h:Int)) (h1:l≤h) (h2:h≤max len cap):AL P (AC T) M (.slice t x lo hi none)=some (.c (.sl b l (h-l) (cap-l) 1)):=by
 rw [qj hx hu hs hl hh h1 h2,Nat.zero_add,Nat.mul_one]
theorem Yf{x:Operand}{lo hi:Option Operand}{el b o len cap l h:Nat}(hx:AC T x= .c (.sl b o len cap 1))(hu:P.underlying t=some (.slice el))(hs:De P el=some 1)
  (hl:QO 0 (lo.map (AC T))=some (l:Int)) (hh:QO len (hi.map (AC T))=some (h:Int)) (h1:l≤h) (h2:h≤max len cap):AL P (AC T) M (.slice t x lo hi none)=some (.c (.sl b (o+l) (h-l) (cap-l) 1)):=by
 rw [qj hx hu hs hl hh h1 h2,Nat.mul_one]
theorem en{x:Operand}{hi:Option Operand}{el b o sz len cap h:Nat}(hx:AC T x= .c (.sl b o len cap sz))(hu:P.underlying t=some (.slice el))(hs:De P el=some sz)
  (hh:QO len (hi.map (AC T))=some (h:Int)) (h2:h≤max len cap):AL P (AC T) M (.slice t x none hi none)=some (.c (.sl b o h cap sz)):=by
 rw [qj (lo:=none) (l:=0) hx hu hs rfl hh (Nat.zero_le _) h2];simp
theorem RW{α:Type}{f:Value→Option α}{g:α→Value}(h:∀x,f (g x)=some x):∀l:List α,Ue f (l.map g)=some l
 |[]=>rfl
 |x::l=>by simp [Ue,h,RW h l]
theorem AAJ(l:AB 8):B5 (l.map U8)= .a8 l:=by unfold B5;rw [RW xE]
theorem MC{α β:Type}{f:Value→Option α}{g:β→Value}(h:∀x,f (g x)=none):∀l:List β,l≠[]→Ue f (l.map g)=none
 |[],hl=>absurd rfl hl
 |x::l,_=>by simp [Ue,h]
theorem uz{l:AB 32}(hl:l≠[]):B5 (l.map FL)= .a32 l:=by unfold B5;rw [MC (fun _=>rfl) l hl,RW oX]
theorem vU{l:AB 64}(hl:l≠[]):B5 (l.map BW)= .a64 l:=by unfold B5;rw [MC (fun _=>rfl) l hl,MC (fun _=>rfl) l hl,RW dM]
theorem ABw{l:List Int}(hl:l≠[]):B5 (l.map (Value.int .i64))= .ai l:=by unfold B5;rw [MC (fun _=>rfl) l hl,MC (fun _=>rfl) l hl,MC (fun _=>rfl) l hl,RW (f:=i?) (g:=Value.int .i64) (fun _=>rfl)]
theorem np{el sz by':Nat}(hu:P.underlying t=some (.slice el))(he:Bi P el=some (sz,by')):CP P (AC T) M (.buildSlice t 0 #[])=some (.c .esl,M++[]):=by
 show Cq P M t 0 []=_
 simp [Cq,hu,he]
theorem tg{el by' len n:Nat}{ps:Array (Nat×Operand)}{vs:List Value}(hu:P.underlying t=some (.slice el))(he:Bi P el=some (1,by'))(hd:Eg 0 (ps.toList.map fun p=>(p.1,AC T p.2))=some vs)(hl:ps.toList.length=len)(h0:¬len=0)(h1:len≤16777216)(hn:M.length=n):
  CP P (AC T) M (.buildSlice t len ps)=some (.c (.sl n 0 len len 1),M++[.row true (B5 vs)]):=by
 show Cq P M t len (ps.toList.map fun p=>(p.1,AC T p.2))=_
 subst hn
 simp only [Cq,hu,he,Nat.mul_one]
 rw [if_neg h0,if_pos h1,if_pos ⟨trivial,by simpa using hl⟩,hd]
theorem Xz{l:AB 8}{el by' len n:Nat}{ps:Array (Nat×Operand)}(hu:P.underlying t=some (.slice el))(he:Bi P el=some (1,by'))(hd:Eg 0 (ps.toList.map fun p=>(p.1,AC T p.2))=some (l.map U8))(hl:ps.toList.length=len)(h0:¬len=0)(h1:len≤16777216)(hn:M.length=n):
  CP P (AC T) M (.buildSlice t len ps)=some (.c (.sl n 0 len len 1),M++[.row true (.a8 l)]):=by
 have hn0:l≠[]:=by
  intro e;subst e
  have:=Dq hd
  have h9:ps.toList.length=ps.size:=by simp
  simp at this
  omega
 rw [tg hu he hd hl h0 h1 hn,AAJ l]
theorem vn{l:AB 8}{n el:Nat}{ps:Array (Nat×Operand)}(hz:(P.info? t).bind (fun i=>i.zero.map (·.cells.size))=some n)(hu:P.underlying t=some (.array n el))(hs:De P el=some 1)(hd:Eg 0 (ps.toList.map fun p=>(p.1,AC T p.2))=some (l.map U8))(hl:ps.toList.length=n)(h0:¬n=0):
  AL P (AC T) M (.build t ps)=some (.agg (.a8 l)):=by
 show B0 P t (ps.toList.map fun p=>(p.1,AC T p.2))=_
 obtain ⟨it,hi,hz2⟩:=Option.bind_eq_some_iff.1 hz
 obtain ⟨z,hz3,hz4⟩:=Option.map_eq_some_iff.1 hz2
 obtain ⟨ie,hie,h1⟩:=Option.map_eq_some_iff.1 hs
 have hn0:l≠[]:=by
  intro e;subst e
  have:=Dq hd
  have h9:ps.toList.length=ps.size:=by simp
  simp at this
  omega
 simp only [B0,hi,hu,hz3,hie]
 rw [if_pos ⟨h1,by simpa using hl,hz4⟩,hd]
 simp only [AAJ l]
theorem AAX{x i:Operand}{n el j:Nat}{kd:IntKind}{y:AB 8}(hx:AC T x= .agg (.a8 y))(hi:AC T i= .c (.val (.int kd (j:Int))))(hu:P.underlying t=some (.array n el))(hs:De P el=some 1)(hr:BC P el=some false)(h0:j<n)(hl:j<y.length):
  AL P (AC T) M (.index t x i)=some (.c (.val (U8 (nth y j)))):=by
 show YQ P t (AC T x) (AC T i)=_
 rw [hx,hi]
 have h1:(0:Int)≤(j:Int)∧(j:Int)<(n:Int):=by omega
 simp only [YQ,hu,Fc,hs,h1,and_self,if_true,Int.toNat_natCast,Nat.mul_one,FK,hr]
 rw [if_pos (show j<Arr.size (.a8 y) from hl)]
 rfl
theorem tu{x y:Operand}{el by' a b n:Nat}{ka kb:IntKind}(hu:P.underlying t=some (.slice el))(hx:AC T x= .c (.val (.int ka (a:Int))))(hy:AC T y= .c (.val (.int kb (b:Int))))(he:Bi P el=some (1,by'))(hrep:∀n,JG P el n=some (.a8 (Ag n)))(h1:a≤b)(h2:b*by'≤281474976710656)(h3:b≤9223372036854775807)(hn:M.length=n):
  CP P (AC T) M (.makeSlice t x y)=some (.c (.sl n 0 a b 1),M++[.row true (.a8 (Ag b))]):=by
 show F4 P M t (AC T x) (AC T y)=_
 subst hn
 rw [hx,hy]
 simp only [F4,hu,Fc,he]
 rw [if_pos ⟨by omega,by omega,by rw [←Int.natCast_mul];omega,by omega⟩]
 simp [hrep]
theorem Zr{s x:Operand}{el by' b n c m:Nat}{own:Bool}{r:AB 8}{e2:TypeId}(hs:AC T s= .c .esl)(hx:AC T x= .c (.sl b 0 n c 1))(hm:M[b]?=some (.row own (.a8 r)))(hu:P.underlying t=some (.slice el))(hu2:P.underlying t'=some (.slice e2))(he:Bi P el=some (1,by'))(hl:r.length=n)(hb:n*by'≤140737488355328∧n≤9223372036854775807)(hn:M.length=m):
  CP P (AC T) M (.call { callee:= .builtin .append,args:= #[s,x],argTypes:= #[t,t'] })=some (.c (.sl m 0 n n 1),M++[.row true (.a8 r)]):=by
 show BM P M t t' (AC T s) (AC T x)=_
 subst hn
 rw [hs,hx]
 have hz:Arr.size (.a8 r)=n:=hl
 simp [BM,hu,Et,hu2,he,Eo,hm,hz,Ft,Arr.one,hb.1,hb.2]
theorem qY{s x:Operand}{el by' b o n c m:Nat}{own:Bool}{r:AB 8}{e2:TypeId}(hs:AC T s= .c .esl)(hx:AC T x= .c (.sl b o n c 1))(hm:M[b]?=some (.row own (.a8 r)))(hu:P.underlying t=some (.slice el))(hu2:P.underlying t'=some (.slice e2))(he:Bi P el=some (1,by'))(hl:o+n≤r.length)(hb:n*by'≤140737488355328∧n≤9223372036854775807)(hn:M.length=m):
  CP P (AC T) M (.call { callee:= .builtin .append,args:= #[s,x],argTypes:= #[t,t'] })=some (.c (.sl m 0 n n 1),M++[.row true (.a8 (cut r o n))]):=by
 show BM P M t t' (AC T s) (AC T x)=_
 subst hn
 rw [hs,hx]
 have hw:Ft (.a8 r) o (n*1)= .a8 (cut r o n):=by
  unfold Ft
  split
  ·rename_i h
   have h2:r.length=n:=by have:=h.2;simp [Arr.size] at this;omega
   rw [h.1];subst h2;simp [cut]
  ·rw [Nat.mul_one];rfl
 have hsz:o+n*1≤Arr.size (.a8 r):=by simp [Arr.size];exact hl
 have hsrc:Eo M 1 (.c (.sl b o n c 1))=some (n,.a8 (cut r o n)):=by
  simp only [Eo,hm]
  rw [if_pos ⟨trivial,hsz⟩,hw]
 simp [BM,hu,Et,hu2,he,hsrc,Arr.one,hb.1,hb.2]
theorem sD{s x:Operand}{el by' b n c m:Nat}{own:Bool}{r:AB 8}{e2:TypeId}(hs:AC T s= .c .nsl)(hx:AC T x= .c (.sl b 0 n c 1))(hm:M[b]?=some (.row own (.a8 r)))(hu:P.underlying t=some (.slice el))(hu2:P.underlying t'=some (.slice e2))(he:Bi P el=some (1,by'))(hl:r.length=n)(hb:n*by'≤140737488355328∧n≤9223372036854775807)(hn:M.length=m):
  CP P (AC T) M (.call { callee:= .builtin .append,args:= #[s,x],argTypes:= #[t,t'] })=some (.c (.sl m 0 n n 1),M++[.row true (.a8 r)]):=by
 show BM P M t t' (AC T s) (AC T x)=_
 subst hn
 rw [hs,hx]
 have hz:Arr.size (.a8 r)=n:=hl
 simp [BM,hu,Et,hu2,he,Eo,hm,hz,Ft,Arr.one,hb.1,hb.2]
theorem ot{s x:Operand}{el by' b o n c m:Nat}{own:Bool}{r:AB 8}{e2:TypeId}(hs:AC T s= .c .nsl)(hx:AC T x= .c (.sl b o n c 1))(hm:M[b]?=some (.row own (.a8 r)))(hu:P.underlying t=some (.slice el))(hu2:P.underlying t'=some (.slice e2))(he:Bi P el=some (1,by'))(hl:o+n≤r.length)(hb:n*by'≤140737488355328∧n≤9223372036854775807)(hn:M.length=m):
  CP P (AC T) M (.call { callee:= .builtin .append,args:= #[s,x],argTypes:= #[t,t'] })=some (.c (.sl m 0 n n 1),M++[.row true (.a8 (cut r o n))]):=by
 show BM P M t t' (AC T s) (AC T x)=_
 subst hn
 rw [hs,hx]
 have hw:Ft (.a8 r) o (n*1)= .a8 (cut r o n):=by
  unfold Ft
  split
  ·rename_i h
   have h2:r.length=n:=by have:=h.2;simp [Arr.size] at this;omega
   rw [h.1];subst h2;simp [cut]
  ·rw [Nat.mul_one];rfl
 have hsz:o+n*1≤Arr.size (.a8 r):=by simp [Arr.size];exact hl
 have hsrc:Eo M 1 (.c (.sl b o n c 1))=some (n,.a8 (cut r o n)):=by
  simp only [Eo,hm]
  rw [if_pos ⟨trivial,hsz⟩,hw]
 simp [BM,hu,Et,hu2,he,hsrc,Arr.one,hb.1,hb.2]
theorem yU{s x:Operand}{el by' b0 len cap b n c m:Nat}{own:Bool}{u r:AB 8}{e2:TypeId}(hs:AC T s= .c (.sl b0 0 len cap 1))(hms:M[b0]?=some (.row true (.a8 u)))(hx:AC T x= .c (.sl b 0 n c 1))(hm:M[b]?=some (.row own (.a8 r)))(hu:P.underlying t=some (.slice el))(hu2:P.underlying t'=some (.slice e2))(he:Bi P el=some (1,by'))
  (hlu:u.length=len) (hl:r.length=n) (hb:(len+n)*by'≤140737488355328∧len+n≤9223372036854775807∧n*by'≤140737488355328) (hn:M.length=m) (hM:M.set b0 .dead++[.row true (.a8 (u++r))]=M') (hd:decide (d<N)=true) (hk:WO P k ops l0 ⟨N,upd T d (.c (.sl m 0 (len+n) (len+n) 1)),M'⟩ K):
  WO P k ops (⟨some d,.call { callee:= .builtin .append,args:= #[s,x],argTypes:= #[t,t'] },ty,pos,af,none⟩::l0) ⟨N,T,M⟩ K:=
 QN (by
  show BM P M t t' (AC T s) (AC T x)=_
  subst hn;subst hM
  rw [hs,hx]
  have hz:Arr.size (.a8 r)=n:=hl
  have hz2:Arr.size (.a8 u)=len:=hlu
  have hn9:n≤9223372036854775807:=by omega
  simp [BM,hu,Et,hu2,he,Eo,hm,hms,hz,hz2,Ft,Arr.one,Arr.app,hb.1,hb.2.1,hb.2.2,hn9]) hd hk
theorem tA{s x:Operand}{el by' b0 len cap b o n c m:Nat}{own:Bool}{u r:AB 8}{e2:TypeId}(hs:AC T s= .c (.sl b0 0 len cap 1))(hms:M[b0]?=some (.row true (.a8 u)))(hx:AC T x= .c (.sl b o n c 1))(hm:M[b]?=some (.row own (.a8 r)))(hu:P.underlying t=some (.slice el))(hu2:P.underlying t'=some (.slice e2))(he:Bi P el=some (1,by'))
  (hlu:u.length=len) (hl:o+n≤r.length) (hb:(len+n)*by'≤140737488355328∧len+n≤9223372036854775807∧n*by'≤140737488355328) (hn:M.length=m) (hM:M.set b0 .dead++[.row true (.a8 (u++cut r o n))]=M') (hd:decide (d<N)=true) (hk:WO P k ops l0 ⟨N,upd T d (.c (.sl m 0 (len+n) (len+n) 1)),M'⟩ K):
  WO P k ops (⟨some d,.call { callee:= .builtin .append,args:= #[s,x],argTypes:= #[t,t'] },ty,pos,af,none⟩::l0) ⟨N,T,M⟩ K:=
 QN (by
  show BM P M t t' (AC T s) (AC T x)=_
  subst hn;subst hM
  rw [hs,hx]
  have hw:Ft (.a8 r) o (n*1)= .a8 (cut r o n):=by
   unfold Ft
   split
   ·rename_i h
    have h2:r.length=n:=by have:=h.2;simp [Arr.size] at this;omega
    rw [h.1];subst h2;simp [cut]
   ·rw [Nat.mul_one];rfl
  have hsz:o+n*1≤Arr.size (.a8 r):=by simp [Arr.size];exact hl
  have hsrc:Eo M 1 (.c (.sl b o n c 1))=some (n,.a8 (cut r o n)):=by
   simp only [Eo,hm]
   rw [if_pos ⟨trivial,hsz⟩,hw]
  have hz2:Arr.size (.a8 u)=len:=hlu
  have hn9:n≤9223372036854775807:=by omega
  simp [BM,hu,Et,hu2,he,hsrc,hms,hz2,Ft,Arr.one,Arr.app,hb.1,hb.2.1,hb.2.2,hn9]) hd hk
theorem yg{l:AB 32}{el by' len n:Nat}{ps:Array (Nat×Operand)}(hu:P.underlying t=some (.slice el))(he:Bi P el=some (1,by'))(hd:Eg 0 (ps.toList.map fun p=>(p.1,AC T p.2))=some (l.map FL))(hl:ps.toList.length=len)(h0:¬len=0)(h1:len≤16777216)(hn:M.length=n):
  CP P (AC T) M (.buildSlice t len ps)=some (.c (.sl n 0 len len 1),M++[.row true (.a32 l)]):=by
 have hn0:l≠[]:=by
  intro e;subst e
  have:=Dq hd
  have h9:ps.toList.length=ps.size:=by simp
  simp at this
  omega
 rw [tg hu he hd hl h0 h1 hn,uz hn0]
theorem iT{l:AB 32}{n el:Nat}{ps:Array (Nat×Operand)}(hz:(P.info? t).bind (fun i=>i.zero.map (·.cells.size))=some n)(hu:P.underlying t=some (.array n el))(hs:De P el=some 1)(hd:Eg 0 (ps.toList.map fun p=>(p.1,AC T p.2))=some (l.map FL))(hl:ps.toList.length=n)(h0:¬n=0):
  AL P (AC T) M (.build t ps)=some (.agg (.a32 l)):=by
 show B0 P t (ps.toList.map fun p=>(p.1,AC T p.2))=_
 obtain ⟨it,hi,hz2⟩:=Option.bind_eq_some_iff.1 hz
 obtain ⟨z,hz3,hz4⟩:=Option.map_eq_some_iff.1 hz2
 obtain ⟨ie,hie,h1⟩:=Option.map_eq_some_iff.1 hs
 have hn0:l≠[]:=by
  intro e;subst e
  have:=Dq hd
  have h9:ps.toList.length=ps.size:=by simp
  simp at this
  omega
 simp only [B0,hi,hu,hz3,hie]
 rw [if_pos ⟨h1,by simpa using hl,hz4⟩,hd]
 simp only [uz hn0]
theorem xb{l:AB 64}{el by' len n:Nat}{ps:Array (Nat×Operand)}(hu:P.underlying t=some (.slice el))(he:Bi P el=some (1,by'))(hd:Eg 0 (ps.toList.map fun p=>(p.1,AC T p.2))=some (l.map BW))(hl:ps.toList.length=len)(h0:¬len=0)(h1:len≤16777216)(hn:M.length=n):
  CP P (AC T) M (.buildSlice t len ps)=some (.c (.sl n 0 len len 1),M++[.row true (.a64 l)]):=by
 have hn0:l≠[]:=by
  intro e;subst e
  have:=Dq hd
  have h9:ps.toList.length=ps.size:=by simp
  simp at this
  omega
 rw [tg hu he hd hl h0 h1 hn,vU hn0]
theorem P8{l:AB 64}{n el:Nat}{ps:Array (Nat×Operand)}(hz:(P.info? t).bind (fun i=>i.zero.map (·.cells.size))=some n)(hu:P.underlying t=some (.array n el))(hs:De P el=some 1)(hd:Eg 0 (ps.toList.map fun p=>(p.1,AC T p.2))=some (l.map BW))(hl:ps.toList.length=n)(h0:¬n=0):
  AL P (AC T) M (.build t ps)=some (.agg (.a64 l)):=by
 show B0 P t (ps.toList.map fun p=>(p.1,AC T p.2))=_
 obtain ⟨it,hi,hz2⟩:=Option.bind_eq_some_iff.1 hz
 obtain ⟨z,hz3,hz4⟩:=Option.map_eq_some_iff.1 hz2
 obtain ⟨ie,hie,h1⟩:=Option.map_eq_some_iff.1 hs
 have hn0:l≠[]:=by
  intro e;subst e
  have:=Dq hd
  have h9:ps.toList.length=ps.size:=by simp
  simp at this
  omega
 simp only [B0,hi,hu,hz3,hie]
 rw [if_pos ⟨h1,by simpa using hl,hz4⟩,hd]
 simp only [vU hn0]
theorem wU{x i:Operand}{n el j:Nat}{kd:IntKind}{y:AB 64}(hx:AC T x= .agg (.a64 y))(hi:AC T i= .c (.val (.int kd (j:Int))))(hu:P.underlying t=some (.array n el))(hs:De P el=some 1)(hr:BC P el=some false)(h0:j<n)(hl:j<y.length):
  AL P (AC T) M (.index t x i)=some (.c (.val (BW (nth y j)))):=by
 show YQ P t (AC T x) (AC T i)=_
 rw [hx,hi]
 have h1:(0:Int)≤(j:Int)∧(j:Int)<(n:Int):=by omega
 simp only [YQ,hu,Fc,hs,h1,and_self,if_true,Int.toNat_natCast,Nat.mul_one,FK,hr]
 rw [if_pos (show j<Arr.size (.a64 y) from hl)]
 rfl
theorem Wj{l:List (Int)}{el by' len n:Nat}{ps:Array (Nat×Operand)}(hu:P.underlying t=some (.slice el))(he:Bi P el=some (1,by'))(hd:Eg 0 (ps.toList.map fun p=>(p.1,AC T p.2))=some (l.map (Value.int .i64)))(hl:ps.toList.length=len)(h0:¬len=0)(h1:len≤16777216)(hn:M.length=n):
  CP P (AC T) M (.buildSlice t len ps)=some (.c (.sl n 0 len len 1),M++[.row true (.ai l)]):=by
 have hn0:l≠[]:=by
  intro e;subst e
  have:=Dq hd
  have h9:ps.toList.length=ps.size:=by simp
  simp at this
  omega
 rw [tg hu he hd hl h0 h1 hn,ABw hn0]
theorem xH{s x:Operand}{el by' b0 len cap b n c m:Nat}{own:Bool}{u r:List (Int)}{e2:TypeId}(hs:AC T s= .c (.sl b0 0 len cap 1))(hms:M[b0]?=some (.row true (.ai u)))(hx:AC T x= .c (.sl b 0 n c 1))(hm:M[b]?=some (.row own (.ai r)))(hu:P.underlying t=some (.slice el))(hu2:P.underlying t'=some (.slice e2))(he:Bi P el=some (1,by'))
  (hlu:u.length=len) (hl:r.length=n) (hb:(len+n)*by'≤140737488355328∧len+n≤9223372036854775807∧n*by'≤140737488355328) (hn:M.length=m) (hM:M.set b0 .dead++[.row true (.ai (u++r))]=M') (hd:decide (d<N)=true) (hk:WO P k ops l0 ⟨N,upd T d (.c (.sl m 0 (len+n) (len+n) 1)),M'⟩ K):
  WO P k ops (⟨some d,.call { callee:= .builtin .append,args:= #[s,x],argTypes:= #[t,t'] },ty,pos,af,none⟩::l0) ⟨N,T,M⟩ K:=
 QN (by
  show BM P M t t' (AC T s) (AC T x)=_
  subst hn;subst hM
  rw [hs,hx]
  have hz:Arr.size (.ai r)=n:=hl
  have hz2:Arr.size (.ai u)=len:=hlu
  have hn9:n≤9223372036854775807:=by omega
  simp [BM,hu,Et,hu2,he,Eo,hm,hms,hz,hz2,Ft,Arr.one,Arr.app,hb.1,hb.2.1,hb.2.2,hn9]) hd hk
theorem JU{c a b:Operand}{p:Bool}{v:AV}(hc:AC T c= .c (.val (.bool p)))(hp:p=true)(ha:AC T a=v):AL P (AC T) M (.pick c a b)=some v:=by
 subst hp
 simp only [AL,hc,if_true,ha]
theorem MU{c a b:Operand}{p:Bool}{v:AV}(hc:AC T c= .c (.val (.bool p)))(hp:p=false)(hb:AC T b=v):AL P (AC T) M (.pick c a b)=some v:=by
 subst hp
 simp only [AL,hc,hb]
 rfl
theorem wd{x:Operand}{e b o len cap sz m:Nat}{y:AB 8}{u:Option TypeDesc}(hx:AC T x= .c (.sl b o len cap sz))(ht:P.underlying t=some (.slice e))(hu:P.underlying e=u)(he:u=some (.int .u8))(hm:M[b]?=some (.row true (.a8 y)))(h0:0<len)(hn:M.length=m)(hM:M.set b .dead++[.row false (.a8 y)]=M')(hd:decide (d<N)=true)
  (hk:WO P k ops l0 ⟨N,upd T d (.c (.sl m o len cap sz)),M'⟩ K):WO P k ops (⟨some d,.convert t t x,ty,pos,af,none⟩::l0) ⟨N,T,M⟩ K:=
 QN (by
  subst hn;subst hM;subst he
  show Uw P M t t (AC T x)=_
  rw [hx]
  simp [Uw,Mi,Zx,ht,hu,hm,h0,Arr.isMap]) hd hk
theorem kU{x:Operand}{a:BitVec 64}(hx:AC T x= .c (.val (BW a))):AL P (AC T) M (.unOp .xor t x)=some (.c (.val (BW (~~~a)))):=by
 simp only [AL,hx,ABF];rfl
theorem kB{x:Operand}{a:BitVec 32}(hx:AC T x= .c (.val (FL a))):AL P (AC T) M (.unOp .xor t x)=some (.c (.val (FL (~~~a)))):=by
 simp only [AL,hx,zR];rfl
theorem SU{x:Operand}{a:Bool}(hx:AC T x= .c (.val (.bool a))):AL P (AC T) M (.unOp .not t x)=some (.c (.val (.bool (!a)))):=by
 simp only [AL,hx];rfl
theorem mg{x y:Operand}{a b:Bool}(hx:AC T x= .c (.val (.bool a)))(hy:AC T y= .c (.val (.bool b)))(hu:P.underlying t=some .bool):AL P (AC T) M (.binOp .neq t x y t')=some (.c (.val (.bool (!(a==b))))):=by
 show No P .neq t x y (AC T x) (AC T y)=_
 rw [hx,hy];simp [No,Rm,hu]
theorem xF{x y:Operand}{a b:Int}(hx:AC T x= .c (.val (.int .i64 a)))(hy:AC T y= .c (.val (.int .i64 b))):AL P (AC T) M (.binOp .eql t x y t')=some (.c (.val (.bool (a==b)))):=B2 hx hy ABK
theorem xK{x y:Operand}{a b:Int}(hx:AC T x= .c (.val (.int .i64 a)))(hy:AC T y= .c (.val (.int .i64 b))):AL P (AC T) M (.binOp .neq t x y t')=some (.c (.val (.bool (a !=b)))):=B2 hx hy zo
theorem xD{f:FuncId}{ops2:Array Operand}{ts:Array TypeId}{args:List AV}{mc mc':Ak}{bs:List Nat}{v v':AV}{news:Ak}(h:Ev P (.call f args mc) (.val v mc'))(hf:(P.funcs[f]?).any (fun fn=>fn.body.isSome&& !(fn.name== "runtime.NumGoroutine"))=true)
  (hin:canon 0 (ops2.toList.map (AC T)) M=some (args,mc,bs)) (hM:DC bs mc' (Ee bs M.length) 0 M=M) (hN:(mc'.drop bs.length).map (Row.ren (Ee bs M.length))=news) (hv:v.ren (Ee bs M.length)=v'):
  Ev P (.op (.call { callee:= .value (.func f),args:=ops2,argTypes:=ts }) (AC T) M) (.val v' (M++news)):=by
 have:=Ev.fn (c:={ callee:= .value (.func f),args:=ops2,argTypes:=ts }) (e:=AC T) f rfl rfl hf hin h
 simp only [GH,hM,hN,hv] at this
 exact this
theorem AY{f:FuncId}{ops2:Array Operand}{ts:Array TypeId}{args:List AV}{mc mc':Ak}{bs:List Nat}{v v':AV}{news:Ak}(h:Ev P (.call f args mc) (.val v mc'))(hf:(P.funcs[f]?).any (fun fn=>fn.body.isSome&& !(fn.name== "runtime.NumGoroutine"))=true)
  (hin:canon 0 (ops2.toList.map (AC T)) (BZ M)=some (args,mc,bs)) (hM:DC bs mc' (Ee bs (BZ M).length) 0 (BZ M)=BZ M) (hN:(mc'.drop bs.length).map (Row.ren (Ee bs (BZ M).length))=news) (hv:v.ren (Ee bs (BZ M).length)=v'):
  Ev P (.op (.call { callee:= .value (.func f),args:=ops2,argTypes:=ts }) (AC T) M) (.val v' (M++news)):=
 .ro (xD h hf hin hM hN hv)
theorem DG{f:FuncId}{ops2:Array Operand}{ts:Array TypeId}{args:List AV}{mc mc':Ak}{bs:List Nat}{v v':AV}{news M1:Ak}(h:Ev P (.call f args mc) (.val v mc'))(hf:(P.funcs[f]?).any (fun fn=>fn.body.isSome&& !(fn.name== "runtime.NumGoroutine"))=true)
  (hin:canon 0 (ops2.toList.map (AC T)) M=some (args,mc,bs)) (hM:DC bs mc' (Ee bs M.length) 0 M=M1) (hN:(mc'.drop bs.length).map (Row.ren (Ee bs M.length))=news) (hv:v.ren (Ee bs M.length)=v') (hA:M1++news=M'):
  Ev P (.op (.call { callee:= .value (.func f),args:=ops2,argTypes:=ts }) (AC T) M) (.val v' M'):=by
 have:=Ev.fn (c:={ callee:= .value (.func f),args:=ops2,argTypes:=ts }) (e:=AC T) f rfl rfl hf hin h
 simp only [GH,hM,hN,hv,hA] at this
 exact this
theorem jG{f:FuncId}{x y z:Operand}{ts:Array TypeId}{a b:BitVec 64}{cv:Value}{c:BitVec 64}(hf:Wb P f add64Entry)(hx:AC T x= .c (.val (BW a)))(hy:AC T y= .c (.val (BW b)))(hz:AC T z= .c (.val cv))(hcv:cv=BW c)(hc:c.toNat≤1):
  Ev P (.op (.call { callee:= .value (.func f),args:= #[x,y,z],argTypes:=ts }) (AC T) M) (.val (oy a b c) (M++[])):=by
 rw [List.append_nil]
 refine Ev.add64 f rfl rfl hf ?_;show dZ oy [AC T x,AC T y,AC T z]=_
 rw [hx,hy,hz,hcv]
 simp [dZ,hc]
theorem vJ{f:FuncId}{x y z:Operand}{ts:Array TypeId}{a b:BitVec 64}{cv:Value}{c:BitVec 64}(hf:Wb P f sub64Entry)(hx:AC T x= .c (.val (BW a)))(hy:AC T y= .c (.val (BW b)))(hz:AC T z= .c (.val cv))(hcv:cv=BW c)(hc:c.toNat≤1):
  Ev P (.op (.call { callee:= .value (.func f),args:= #[x,y,z],argTypes:=ts }) (AC T) M) (.val (qf a b c) (M++[])):=by
 rw [List.append_nil]
 refine Ev.sub64 f rfl rfl hf ?_;show dZ qf [AC T x,AC T y,AC T z]=_
 rw [hx,hy,hz,hcv]
 simp [dZ,hc]
end
theorem HL{α:Type}{l:List α}{n:Nat}(h:l.length=n):cut l 0 n=l:=by subst h;simp [cut]
theorem ah{ι:Emb}{M:Ak}{w:World}(hR:R ι M w){b:Nat}{l:Loc}(h:ι b=some l):b<M.length:=by
 rcases Nat.lt_or_ge b M.length with h1 | h1
 ·exact h1
 ·rw [hR.dom b h1] at h;cases h
theorem Qv{M:Ak}{x:Row}{b:Nat}(h:b<M.length):(M++[x])[b]?=M[b]?:=List.getElem?_append_left h
theorem bi{k:Nat}{ι:Emb}{M:Ak}{w:World}{x:Arr}(hk:k≤M.length)(hR:R ι M w):Step k ι M w ι (M++[.row true x]) w:=by
 have lt:=fun {b:Nat} {l:Loc} (h:ι b=some l)=>ah hR h
 refine Step.make hR (fun b hb=>hR.dom b (by simp at hb;omega)) (fun b l own y h1 h2=>?_) (fun b b' l l' own own' y y' hne h1 h2 h3 h4 ho=>?_) ⟨rfl,rfl,rfl,Nat.le_refl _,fun _ _ _=>rfl,?_⟩ rfl (fun _ _=>rfl) (by simp;omega) (fun b y hb h=>?_) (fun b own y hb h=>?_) (fun b l own y hb h1 h2=>?_)
 ·rw [Qv (lt h1)] at h2;exact hR.rows b l own y h1 h2
 ·rw [Qv (lt h1)] at h3;rw [Qv (lt h2)] at h4;exact hR.inj b b' l l' own own' y y' hne h1 h2 h3 h4 ho
 ·rintro c ⟨b,l,y,h1,h2,h3⟩
  rw [Qv (lt h1)] at h2;exact .inr ⟨b,l,y,h1,h2,h3⟩
 ·rw [Qv O_];exact h
 ·rw [Qv O_] at h;exact ⟨y,h⟩
 ·rw [Qv (lt h1)] at h2;exact .inr (.inr ⟨b,l,own,y,hb,h1,h2,rfl⟩)
def NW(n b:Nat)(ι:Emb):Emb:=⟨fun i=>if i=n then ι b else ι i,ι.tx⟩
theorem gS{ι:Emb}{M:Ak}{w:World}(hR:R ι M w)(b:Nat):ι.le (NW M.length b ι):=by
 refine ⟨fun i l h=>?_,fun _ _ _ h=>h⟩
 have:=ah hR h
 unfold NW
 dsimp only
 rw [if_neg O_];exact h
theorem lu{k:Nat}{ι:Emb}{M:Ak}{w:World}{b:Nat}{x:Arr}(hk:k≤M.length)(hR:R ι M w)(hb:M[b]?=some (.row true x)):Step k ι M w (NW M.length b ι) (M.set b .dead++[.row true x]) w:=by
 have hbl:b<M.length:=by
  rcases Nat.lt_or_ge b M.length with h1 | h1
  ·exact h1
  ·rw [List.getElem?_eq_none h1] at hb;cases hb
 have e1:∀ {i:Nat},i≠M.length→NW M.length b ι i=ι i:=fun h=>if_neg h
 have e2:NW M.length b ι M.length=ι b:=if_pos rfl
 have src:∀ {i:Nat} {own:Bool} {y:Arr},(M.set b .dead++[.row true x])[i]?=some (.row own y)→(i=M.length∧own=true∧y=x)∨(i<M.length∧i≠b∧M[i]?=some (.row own y)):=by
  intro i own y h
  rcases Nat.lt_trichotomy i M.length with h1 | h1 | h1
  ·right
   rw [List.getElem?_append_left (by simp;exact h1),List.getElem?_set] at h
   by_cases e:b=i
   ·subst e;simp [h1] at h
   ·rw [if_neg e] at h;exact ⟨h1,fun h=>e h.symm,h⟩
  ·left
   subst h1
   rw [List.getElem?_append_right (by simp)] at h
   simp only [List.length_set,Nat.sub_self,List.getElem?_cons_zero,Option.some.injEq,Row.row.injEq] at h
   exact ⟨rfl,h.1.symm,h.2.symm⟩
  ·rw [List.getElem?_eq_none (by simp;omega)] at h;cases h
 have org:∀ {i:Nat} {l:Loc} {own:Bool} {y:Arr},NW M.length b ι i=some l→(M.set b .dead++[.row true x])[i]?=some (.row own y)→ ∃i0,ι i0=some l∧M[i0]?=some (.row own y)∧(i0=i∨(i0=b∧i=M.length)):=by
  intro i l own y h1 h2
  rcases src h2 with ⟨rfl,rfl,rfl⟩ | ⟨h3,h4,h5⟩
  ·rw [e2] at h1;exact ⟨b,h1,hb,.inr ⟨rfl,rfl⟩⟩
  ·rw [e1 O_] at h1;exact ⟨i,h1,h5,.inl rfl⟩
 refine Step.make hR (fun i hi=>?_) (fun i l own y h1 h2=>?_) (fun i i' l l' own own' y y' hne h1 h2 h3 h4 ho=>?_) ⟨rfl,rfl,rfl,Nat.le_refl _,fun _ _ _=>rfl,?_⟩ rfl (fun i hi=>e1 O_) (by simp;omega) (fun i y hi h=>?_) (fun i own y hi h=>?_) (fun i l own y hi h1 h2=>?_)
 ·simp at hi
  rw [e1 O_];exact hR.dom i O_
 ·obtain ⟨i0,h3,h4,_⟩:=org h1 h2
  exact (hR.rows i0 l own y h3 h4).mono (gS hR b)
 ·obtain ⟨j,k1,k2,k3⟩:=org h1 h3
  obtain ⟨j',g1,g2,g3⟩:=org h2 h4
  have hs:=src h3
  have hs':=src h4
  refine hR.inj j j' l l' own own' y y' (fun e=>?_) k1 g1 k2 g2 ho
  subst e
  rcases k3 with k3 | k3<;>rcases g3 with g3 | g3
  ·exact hne O_
  ·rcases hs with hs | hs
   ·have:=ah hR k1;omega
   ·omega
  ·rcases hs' with hs' | hs'
   ·have:=ah hR k1;omega
   ·omega
  ·omega
 ·rintro c ⟨i,l,y,h1,h2,h3⟩
  obtain ⟨i0,h4,h5,_⟩:=org h1 h2
  exact .inr ⟨i0,l,y,h4,h5,h3⟩
 ·rw [List.getElem?_append_left (by simp;omega),List.getElem?_set]
  by_cases e:b=i
  ·subst e;rw [hb] at h;cases h
  ·rw [if_neg e];exact h
 ·rcases src h with ⟨h1,_⟩ | ⟨_,_,h1⟩
  ·omega
  ·exact ⟨y,h1⟩
 ·obtain ⟨i0,h3,h4,h5⟩:=org h1 h2
  rcases h5 with rfl | ⟨rfl,rfl⟩
  ·exact .inr (.inr ⟨i0,l,own,y,hi,h3,h4,rfl⟩)
  ·rcases src h2 with ⟨_,rfl,rfl⟩ | ⟨h6,_⟩
   ·exact .inr (.inl ⟨i0,l,y,h3,hb,rfl⟩)
   ·omega
section
variable {P:Program} {k N n:Nat} {c:Code} {T:Nat→AV} {M M':Ak} {Φ:Ex→St→Prop}
theorem PX{ι:Emb}{s s':St}{a:Act}(d:Nat){v:AV}(h:DT ι s a)(hn:s'.n=s.n)(ht:s'.t=upd s.t d v)(hv:∀u,(s.t d).rel ι u→v.rel ι u):DT ι s' a:=by
 refine ⟨h.size.trans hn.symm,fun t=>?_⟩
 rw [ht]
 unfold upd
 split
 ·rename_i e;subst e;exact hv _ (h.rel t)
 ·exact h.rel t
theorem FP(d sz:Nat)(x:Arr)(_hx:x.size=0)(hd:T d= .c .nsl)(hn:M.length=n)(hM:M++[.row true x]=M')(h:WC P k c ⟨N,upd T d (.c (.sl n 0 0 0 sz)),M'⟩ Φ):WC P k c ⟨N,T,M⟩ Φ:=by
 subst hM;subst hn
 obtain ⟨e,r,h1,h2⟩:=h.h
 refine ⟨⟨e,r,Ev.weak ?_ h1,h2⟩⟩
 intro ι w a hk hR hf
 refine ⟨ι,PX (s:=⟨N,T,M⟩) d hf rfl rfl ?_,bi hk hR⟩
 intro u hu
 change (T d).rel ι u at hu
 rw [hd] at hu
 change u=_ at hu
 subst hu
 exact ⟨none,0,rfl,Nat.le_refl _,Nat.le_refl _,.inl rfl⟩
theorem pM(d:Nat){b o len cap sz:Nat}{x:Arr}(hd:T d= .c (.sl b o len cap sz))(hb:M[b]?=some (.row true x))(hn:M.length=n)(hM:M.set b .dead++[.row true x]=M')(h:WC P k c ⟨N,upd T d (.c (.sl n o len len sz)),M'⟩ Φ):WC P k c ⟨N,T,M⟩ Φ:=by
 subst hM;subst hn
 obtain ⟨e,r,h1,h2⟩:=h.h
 refine ⟨⟨e,r,Ev.weak ?_ h1,h2⟩⟩
 intro ι w a hk hR hf
 refine ⟨_,PX (s:=⟨N,T,M⟩) d (hf.mono (gS hR b) M) rfl rfl ?_,lu hk hR hb⟩
 intro u hu
 have hu':=hf.rel d
 change (T d).rel _ u at hu
 rw [hd] at hu
 obtain ⟨p,c',rfl,h3,h4,h5⟩:=hu
 refine ⟨p,c',rfl,h4,h4,h5.imp id ?_⟩
 rintro ⟨l,h6,h7⟩
 refine ⟨l,?_,h7⟩
 show (if M.length=M.length then ι b else ι M.length)=some l
 rw [if_pos rfl]
 unfold NW at h6
 dsimp only at h6
 split at h6
 ·exact h6
 ·exact h6
def AAD(P:Program)(k:Nat)(c:Code)(Φ:Ex→St→Prop):Ex→St→Prop
 |.normal,s=>WC P k (.loop c) s Φ
 |e,s=>Φ e s
theorem RI{s:St}(h:WC P k c s (AAD P k c Φ)):WC P k (.loop c) s Φ:=by
 obtain ⟨e,r,h1,h2⟩:=h.h
 cases e with
 |normal=>obtain ⟨e',r',h3,h4⟩:=WC.h h2;exact ⟨⟨e',r',Ev.loop h1 h3,h4⟩⟩
 |exit i=>exact ⟨⟨_,r,Ev.loopx h1 (by simp),h2⟩⟩
 |ret=>exact ⟨⟨_,r,Ev.loopx h1 (by simp),h2⟩⟩
end
section
variable {P:Program} {k N:Nat} {ops:Array Oper} {d:Nat} {ty:TypeId} {pos:String} {af:Array Edge} {l0:List Oper} {T:Nat→AV} {M M':Ak} {K:St→Prop} {t t':TypeId} {x y:Operand}
end
theorem HJ{ops:Array Oper}{t:Nat→AV}{o:Oper}{j d:Nat}{want b c:Bool}(hg:o.guard=some (j,want))(hd:(ops[j]?).bind (·.dst)=some d)(ht:t d= .c (.val (.bool b)))(hb:(b==want)=c):CB ops t o=some c:=by
 simp only [CB,hg,hd,ht,hb]
theorem cE{ops:Array Oper}{t:Nat→AV}{o:Oper}{j d:Nat}{want:Bool}{y:Array Value}(hg:o.guard=some (j,want))(hd:(ops[j]?).bind (·.dst)=some d)(ht:t d= .c (.val (.tuple y))):CB ops t o=some false:=by
 simp only [CB,hg,hd,ht]
theorem AAG{p:Prop} [Decidable p] (h:p):(decide p==true)=true:=by simp [h]
theorem AAF{p:Prop} [Decidable p] (h:¬p):(decide p==false)=true:=by simp [h]
theorem uq{p:Prop} [Decidable p] (h:p):(decide p==false)=false:=by simp [h]
theorem vP{p:Prop} [Decidable p] (h:¬p):(decide p==true)=false:=by simp [h]
@[simp] theorem pN{α:Type}(u m:List α)(o:Nat):(over u o m).length=min o u.length+m.length+(u.length-(o+m.length)):=by simp [over,Nat.add_assoc]
section
variable {P:Program} {k N:Nat} {ops:Array Oper} {d:Nat} {ty:TypeId} {pos:String} {af:Array Edge} {l0:List Oper} {T:Nat→AV} {M M':Ak} {K:St→Prop} {t t':TypeId}
theorem vC{s x:Operand}{el b0 o len cap b o2 n c m:Nat}{own:Bool}{u r:AB 8}(hs:AC T s= .c (.sl b0 o len cap 1))(hms:M[b0]?=some (.row true (.a8 u)))(hx:AC T x= .c (.sl b o2 n c 1))(hm:M[b]?=some (.row own (.a8 r)))(hu:P.underlying t=some (.slice el))(hz:De P el=some 1)
  (hlu:o+len≤u.length) (hl:o2+n≤r.length) (hn:min n len=m) (hM:M.set b0 (.row true (.a8 (over u o (cut r o2 m))))=M'):
  CP P (AC T) M (.call { callee:= .builtin .copy,args:= #[s,x],argTypes:= #[t,t'] })=some (.c (.val (.int .i64 ((m:Nat):Int))),M'):=by
 show WF P M t (AC T s) (AC T x)=_
 subst hM;subst hn
 rw [hs,hx]
 have h1:o2+min n len≤Arr.size (.a8 r):=by simp only [Arr.size];omega
 have h2:o+min n len≤Arr.size (.a8 u):=by simp only [Arr.size];omega
 simp only [WF,hu,hz,hms,hm,if_true,Nat.zero_lt_one,h1,h2,Arr.win,Arr.one,and_self,Arr.putW,Option.map_some,Nat.mul_one]
theorem jR{s x:Operand}{el b0 o len cap b o2 n c m:Nat}{own:Bool}{u r:AB 8}(hs:AC T s= .c (.sl b0 o len cap 1))(hms:M[b0]?=some (.row true (.a8 u)))(hx:AC T x= .c (.sl b o2 n c 1))(hm:M[b]?=some (.row own (.a8 r)))(hu:P.underlying t=some (.slice el))(hz:De P el=some 1)
  (hlu:o+len≤u.length) (hl:o2+n≤r.length) (hn:min n len=m) (hM:M.set b0 (.row true (.a8 (over u o (cut r o2 m))))=M') (hd:decide (d<N)=true) (hk:WO P k ops l0 ⟨N,upd T d (.c (.val (.int .i64 ((m:Nat):Int)))),M'⟩ K):
  WO P k ops (⟨some d,.call { callee:= .builtin .copy,args:= #[s,x],argTypes:= #[t,t'] },ty,pos,af,none⟩::l0) ⟨N,T,M⟩ K:=
 QN (vC hs hms hx hm hu hz hlu hl hn hM) hd hk
theorem be{s x:Operand}{el b0 o len cap b n c m:Nat}{own:Bool}{u r:AB 8}(hs:AC T s= .c (.sl b0 o len cap 1))(hms:M[b0]?=some (.row true (.a8 u)))(hx:AC T x= .c (.sl b 0 n c 1))(hm:M[b]?=some (.row own (.a8 r)))(hu:P.underlying t=some (.slice el))(hz:De P el=some 1)
  (hlu:o+len≤u.length) (hl:r.length=n) (hn:min n len=m) (he:m=n) (hM:M.set b0 (.row true (.a8 (over u o r)))=M') (hd:decide (d<N)=true) (hk:WO P k ops l0 ⟨N,upd T d (.c (.val (.int .i64 ((m:Nat):Int)))),M'⟩ K):
  WO P k ops (⟨some d,.call { callee:= .builtin .copy,args:= #[s,x],argTypes:= #[t,t'] },ty,pos,af,none⟩::l0) ⟨N,T,M⟩ K:=
 QN (vC hs hms hx hm hu hz hlu O_ hn (by rw [he,HL hl];exact hM)) hd hk
theorem Yu{l:AB 8}{n n' el:Nat}{ps:Array (Nat×Operand)}(hz:(P.info? t).bind (fun i=>i.zero.map (fun z=>B5 z.cells.toList))=some (.a8 (Ag n)))(hu:P.underlying t=some (.array n' el))(hs:De P el=some 1)(h0:(decide (ps.toList.length=n'))=false)
  (hf:HX (fun i=>some (i*1,1)) (.a8 (Ag n)) (ps.toList.map fun p=>(p.1,AC T p.2))=some (.a8 l)):AL P (AC T) M (.build t ps)=some (.agg (.a8 l)):=by
 show B0 P t (ps.toList.map fun p=>(p.1,AC T p.2))=_
 obtain ⟨it,hi,hz2⟩:=Option.bind_eq_some_iff.1 hz
 obtain ⟨z,hz3,hz4⟩:=Option.map_eq_some_iff.1 hz2
 obtain ⟨ie,hie,h1⟩:=Option.map_eq_some_iff.1 hs
 have h9:¬(ie.size=1∧(ps.toList.map fun p=>(p.1,AC T p.2)).length=n'∧z.cells.size=n'):=by
  rintro ⟨_,h,_⟩
  rw [List.length_map] at h
  exact of_decide_eq_false h0 h
 simp only [B0,hi,hu,hz3,hie]
 rw [if_neg h9]
 simp only [hz4,h1,hf,Option.map_some]
theorem ss{l:AB 32}{n n' el:Nat}{ps:Array (Nat×Operand)}(hz:(P.info? t).bind (fun i=>i.zero.map (fun z=>B5 z.cells.toList))=some (.a32 (OJ n)))(hu:P.underlying t=some (.array n' el))(hs:De P el=some 1)(h0:(decide (ps.toList.length=n'))=false)
  (hf:HX (fun i=>some (i*1,1)) (.a32 (OJ n)) (ps.toList.map fun p=>(p.1,AC T p.2))=some (.a32 l)):AL P (AC T) M (.build t ps)=some (.agg (.a32 l)):=by
 show B0 P t (ps.toList.map fun p=>(p.1,AC T p.2))=_
 obtain ⟨it,hi,hz2⟩:=Option.bind_eq_some_iff.1 hz
 obtain ⟨z,hz3,hz4⟩:=Option.map_eq_some_iff.1 hz2
 obtain ⟨ie,hie,h1⟩:=Option.map_eq_some_iff.1 hs
 have h9:¬(ie.size=1∧(ps.toList.map fun p=>(p.1,AC T p.2)).length=n'∧z.cells.size=n'):=by
  rintro ⟨_,h,_⟩
  rw [List.length_map] at h
  exact of_decide_eq_false h0 h
 simp only [B0,hi,hu,hz3,hie]
 rw [if_neg h9]
 simp only [hz4,h1,hf,Option.map_some]
theorem sL{l:AB 64}{n n' el:Nat}{ps:Array (Nat×Operand)}(hz:(P.info? t).bind (fun i=>i.zero.map (fun z=>B5 z.cells.toList))=some (.a64 (Aj n)))(hu:P.underlying t=some (.array n' el))(hs:De P el=some 1)(h0:(decide (ps.toList.length=n'))=false)
  (hf:HX (fun i=>some (i*1,1)) (.a64 (Aj n)) (ps.toList.map fun p=>(p.1,AC T p.2))=some (.a64 l)):AL P (AC T) M (.build t ps)=some (.agg (.a64 l)):=by
 show B0 P t (ps.toList.map fun p=>(p.1,AC T p.2))=_
 obtain ⟨it,hi,hz2⟩:=Option.bind_eq_some_iff.1 hz
 obtain ⟨z,hz3,hz4⟩:=Option.map_eq_some_iff.1 hz2
 obtain ⟨ie,hie,h1⟩:=Option.map_eq_some_iff.1 hs
 have h9:¬(ie.size=1∧(ps.toList.map fun p=>(p.1,AC T p.2)).length=n'∧z.cells.size=n'):=by
  rintro ⟨_,h,_⟩
  rw [List.length_map] at h
  exact of_decide_eq_false h0 h
 simp only [B0,hi,hu,hz3,hie]
 rw [if_neg h9]
 simp only [hz4,h1,hf,Option.map_some]
end
attribute [simp] Ck
theorem AH{p:Prop}(h:p:=by first | exact (rfl:_=0) | exact (rfl:_=1) | exact (rfl:_=2) | exact (rfl:_=3) | exact (rfl:_=4) | exact (rfl:_=5) | exact (rfl:_=6) | exact (rfl:_=7) | exact (rfl:_=8) | exact (rfl:_=9) | exact (rfl:_=10) | exact (rfl:_=11) | exact (rfl:_=12)):p:=h
theorem AM{p:Prop}(h:p:=by first | exact (rfl:_=[]) | exact (rfl:_=[_]) | exact (rfl:_=[_,_]) | exact (rfl:_=[_,_,_]) | exact (rfl:_=[_,_,_,_]) | exact (rfl:_=[_,_,_,_,_]) | exact (rfl:_=[_,_,_,_,_,_]) | exact (rfl:_=[_,_,_,_,_,_,_]) | exact (rfl:_=[_,_,_,_,_,_,_,_]) | exact (rfl:_=[_,_,_,_,_,_,_,_,_]) | exact (rfl:_=[_,_,_,_,_,_,_,_,_,_]) | exact (rfl:_=[_,_,_,_,_,_,_,_,_,_,_]) | exact (rfl:_=[_,_,_,_,_,_,_,_,_,_,_,_]) | exact (rfl:_=[_,_,_,_,_,_,_,_,_,_,_,_,_]) | exact (rfl:_=[_,_,_,_,_,_,_,_,_,_,_,_,_,_]) | exact (rfl:_=[_,_,_,_,_,_,_,_,_,_,_,_,_,_,_]) | exact (rfl:_=[_,_,_,_,_,_,_,_,_,_,_,_,_,_,_,_]) | exact (rfl:_=[_,_,_,_,_,_,_,_,_,_,_,_,_,_,_,_,_]) | exact (rfl:_=[_,_,_,_,_,_,_,_,_,_,_,_,_,_,_,_,_,_]) | exact (rfl:_=[_,_,_,_,_,_,_,_,_,_,_,_,_,_,_,_,_,_,_]) | exact (rfl:_=[_,_,_,_,_,_,_,_,_,_,_,_,_,_,_,_,_,_,_,_]) | exact (rfl:_=[_,_,_,_,_,_,_,_,_,_,_,_,_,_,_,_,_,_,_,_,_]) | exact (rfl:_=[_,_,_,_,_,_,_,_,_,_,_,_,_,_,_,_,_,_,_,_,_,_])):p:=h
theorem Q2{p:Prop}(h:p:=by show _≤List.length _;first | omega | (simp only [B1];omega) | (simp only [A1];omega)):p:=h
theorem GG{p:Prop}(h:p:=by first | assumption | omega | rfl | (simp only [B1];first | assumption | omega) | (simp only [List.length_append];omega) | (simp;done) | (simp [*];done) | (simp [*];omega)):p:=h
theorem UD{p:Prop}(h:p:=by first | omega | (simp only [B1];omega) | (simp;done) | (simp;omega) | (simp [*];done) | (simp [*];omega)):p:=h
theorem BT{p:Prop}(h:p:=by first | exact (rfl:_=AV.c (.val _)) | exact (rfl:_=AV.agg (.a64 _)) | exact (rfl:_=AV.agg (.a8 _)) | exact (rfl:_=AV.agg (.a32 _)) | exact (rfl:_=AV.c .nsl) | exact (rfl:_=AV.c (.sl 0 _ _ _ _)) | exact (rfl:_=AV.c (.sl 1 _ _ _ _)) | exact (rfl:_=AV.c (.sl 2 _ _ _ _)) | exact (rfl:_=AV.c (.sl 3 _ _ _ _)) | exact (rfl:_=AV.c (.sl 4 _ _ _ _)) | exact (rfl:_=AV.c (.sl 5 _ _ _ _)) | exact (rfl:_=AV.c (.sl 6 _ _ _ _)) | exact (rfl:_=AV.c (.sl 7 _ _ _ _)) | exact (rfl:_=AV.c (.sl 8 _ _ _ _)) | exact (rfl:_=AV.c (.sl 9 _ _ _ _)) | exact rfl):p:=h
theorem Dw{p:Prop}(h:p:=by first | omega | (simp only [B1];omega) | (simp only [Ja];omega) | (simp only [A1];omega) | (simp only [NV];omega) | (simp only [ON];omega) | (simp only [dY];omega) | (simp only [bf];omega) | (simp only [Arr.size,List.length_cons,List.length_nil];omega) | (simp only [List.length_cons,List.length_nil];omega) | decide):p:=h
theorem C1{p:Prop}(h:p:=by first | (simp only [Arr.size,List.length_cons,List.length_nil,Nat.reduceAdd];done) | (simp only [Arr.size,Ja,NV,A1,ON];done) | (show List.length _=_;first | assumption | omega | (simp only [B1];first | assumption | omega) | (simp only [UV,List.length_map];first | assumption | omega) | (simp;done) | (simp;assumption) | (simp;omega) | rfl | simp only [Ja] | simp only [A1] | simp only [NV] | simp only [ON])):p:=h
theorem WR_{p:Prop}(h:p:=by first | exact pm _ _ _ | exact yJ _ _ _ | exact vA _ _ _ | exact wI _ _ _ | exact ACP _ _ _):p:=h
theorem yy{p:Prop}(h:p:=by first | rfl):p:=h
theorem AD{p:Prop}(h:p:=by first | omega | (simp;done) | (simp [*];done) | (simp [*];omega) | assumption):p:=h
theorem An{p:Prop}(h:p:=by first | (simp;done) | (simp [*];done) | (simp [*];omega) | rfl):p:=h
theorem MN_{p:Prop}(h:p:=by first | rfl | omega | (rw [Nat.min_eq_left O_]) | (rw [Nat.min_eq_right O_])):p:=h
theorem dj{p:Prop}(h:p:=by first | rfl | assumption | (apply decide_eq_true;omega) | (apply decide_eq_false;omega) | (rw [Bool.not_eq_true',decide_eq_false_iff_not];omega) | (rw [Bool.not_eq_false',decide_eq_true_eq];omega) | (simp [*];done) | (simp;omega)):p:=h
theorem Nz{p:Prop}(h:p:=by first | rfl | exact cE rfl rfl rfl | exact HJ rfl rfl rfl (by first | rfl | exact AAG O_ | exact AAF O_ | exact uq O_ | exact vP O_ | (simp [*];done))):p:=h
theorem dP{n:Nat}:(!decide (n=n))=false:=by simp
structure Hid(r:Prop):Prop where
 out:r
theorem S_{g r:Prop}(k:r) (h:Hid r→g:=by
 intro h
 repeat (first
  |refine vG ?_
  |refine jj ?_
  |refine nw ?_
  |refine yM ?_
  |refine zZ ?_
  |refine ga ?_
  |refine jM ?_
  |refine Ef rfl (by first | rfl | (apply decide_eq_true;omega) | (rw [Bool.not_eq_true',decide_eq_false_iff_not];omega)) ?_
  |refine Bu rfl (by first | rfl | (apply decide_eq_false;omega) | (rw [Bool.not_eq_false',decide_eq_true_eq];omega) | exact dP) ?_)
 exact h.out):g:=h ⟨k⟩
theorem Q_{g r:Prop}(k:r) (h:Hid r→g:=by
 intro h
 repeat (first
  |refine vG ?_
  |refine jj ?_
  |refine nw ?_
  |refine ga ?_
  |refine jM ?_)
 exact h.out):g:=h ⟨k⟩
def rp:Nat→Nat
 |0=>0
 |_+1=>32
@[simp] theorem zl:rp 0=0:=rfl
@[simp] theorem AAI(j:Nat):rp (j+1)=32:=rfl
theorem rF(j:Nat):rp j≤32:=by cases j<;>simp
section
variable {P:Program} {k N:Nat} {ops:Array Oper} {d:Nat} {ty:TypeId} {pos:String} {af:Array Edge} {l0:List Oper} {T:Nat→AV} {M M':Ak} {K:St→Prop} {t t':TypeId}
theorem sZ{v:BitVec 64}{i n n' el:Nat}{x:Operand}(hz:(P.info? t).bind (fun i=>i.zero.map (fun z=>B5 z.cells.toList))=some (.a64 (Aj n)))(hu:P.underlying t=some (.array n' el))(hs:De P el=some 1)(h0:(decide (1=n'))=false)(hi:decide (i<n)=true)(hx:AC T x= .c (.val (BW v))):
  AL P (AC T) M (.build t #[(i,x)])=some (.agg (.a64 (put (Aj n) i v))):=by
 refine sL hz hu hs h0 ?_;have h1:i<Arr.size (.a64 (Aj n)):=by simp only [Arr.size,Ja];exact of_decide_eq_true hi
 have h2:(Cell.val (BW v)).one=true:=rfl
 simp only [List.map_cons,List.map_nil,HX,hx,h1,h2,and_self,if_true,Arr.set,dM,Option.map_some,Option.bind_some,Nat.mul_one]
theorem HA{x:Operand}{b o:Nat}(hx:AC T x= .c (.ptr b o)):AL P (AC T) M (.nilCheck x)=some (.c (.ptr b o)):=by
 simp only [AL,hx]
theorem wl{n:Nat}{s:St}{v:AV}{m':Ak}{e:Ex}(he:e= .ret∨e= .normal)(hc:kp n (.tup []) s.m=some ([v],m')):XW P n [] v m' e s:=by
 obtain ⟨ids,h⟩:=QA hc
 rcases he with rfl | rfl
 ·exact ⟨[],ids,by simp [Gk],h⟩
 ·exact ⟨[],ids,by simp [Gk],h⟩
theorem uT(l:AB 8)(o n:Nat):Ft (.a8 l) o n= .a8 (cut l o n):=by
 unfold Ft
 split
 ·rename_i h
  obtain ⟨rfl,h⟩:=h
  rw [HL (show l.length=n from h.symm)]
 ·rfl
theorem wq(l:AB 64)(o n:Nat):Ft (.a64 l) o n= .a64 (cut l o n):=by
 unfold Ft
 split
 ·rename_i h
  obtain ⟨rfl,h⟩:=h
  rw [HL (show l.length=n from h.symm)]
 ·rfl
theorem PO{t:TypeId}{a:Operand}{b n o:Nat}{own:Bool}{l:AB 8}(ha:AC T a= .c (.ptr b o))(hm:M[b]?=some (.row own (.a8 l)))(hr:BC P t=some true)(hs:De P t=some n)(hx:o+n≤l.length)(h0:0<n):AL P (AC T) M (.load t a)=some (.agg (.a8 (cut l o n))):=by
 have hx':o+n≤Arr.size (.a8 l):=hx
 simp only [AL,ha,hm,FK,hr,hs,hx',h0,and_self,if_true,uT]
theorem Xr{t:TypeId}{a:Operand}{b n o:Nat}{own:Bool}{l:AB 64}(ha:AC T a= .c (.ptr b o))(hm:M[b]?=some (.row own (.a64 l)))(hr:BC P t=some true)(hs:De P t=some n)(hx:o+n≤l.length)(h0:0<n):AL P (AC T) M (.load t a)=some (.agg (.a64 (cut l o n))):=by
 have hx':o+n≤Arr.size (.a64 l):=hx
 simp only [AL,ha,hm,FK,hr,hs,hx',h0,and_self,if_true,wq]
theorem uh{cs:List Cell}{x:Arr}{el by' len n:Nat}{ps:Array (Nat×Operand)}(hu:P.underlying t=some (.slice el))(he:Bi P el=some (1,by'))(hr:JG P el len=some x)(hd:Eg 0 (ps.toList.map fun p=>(p.1,AC T p.2))=none)(hf:HX (fun i=>some (i*1,1)) x (ps.toList.map fun p=>(p.1,AC T p.2))=some (.ac cs))(h0:¬len=0)(h1:len≤16777216)(hn:M.length=n):
  CP P (AC T) M (.buildSlice t len ps)=some (.c (.sl n 0 len len 1),M++[.row true (.ac cs)]):=by
 show Cq P M t len (ps.toList.map fun p=>(p.1,AC T p.2))=_
 subst hn
 have e:(if True∧(ps.toList.map fun p=>(p.1,AC T p.2)).length=len then Eg 0 (ps.toList.map fun p=>(p.1,AC T p.2)) else none)=none:=by split<;>(first | exact hd | rfl)
 simp only [Cq,hu,he,Nat.mul_one]
 rw [if_neg h0,if_pos h1,e]
 simp only [Nat.mul_one] at hf
 simp only [hr,hf]
theorem dC{P:Program}{t e n:Nat}{k:IntKind}{x y:Arr}{r:Bool}(hu:P.underlying t=some (.array n e))(he:P.underlying e=some (.int k))(hs:De P e=some 1)(hx:x.size=n)(hy:y.size=n)(hr:x.alike y=some r):cy P t x y=some r:=by
 unfold De at hs
 obtain ⟨i,hi,h1⟩:=Option.map_eq_some_iff.1 hs
 have hc:P.cellsOf e=1:=by simp [Program.cellsOf,hi,h1]
 have hg:P.eqGuardType P.depth t=false:=by
  show P.eqGuardType (2*(P.types.size+Made.depth)+1+1) t=false
  unfold Program.eqGuardType
  simp only [hu]
  unfold Program.eqGuardType
  simp only [he]
 unfold cy
 simp only [hu,he,hi,hc,hg,hx,hy,true_and,if_true,hr]
theorem am{x y:Operand}{l m:AB 8}{n e:Nat}(hx:AC T x= .agg (.a8 l))(hy:AC T y= .agg (.a8 m))(hu:P.underlying t=some (.array n e))(he:P.underlying e=some (.int .u8))(hs:De P e=some 1)(hl:l.length=n)(hm:m.length=n):
  AL P (AC T) M (.binOp .eql t x y t')=some (.c (.val (.bool (decide (l=m))))):=by
 show No P .eql t x y (AC T x) (AC T y)=_
 rw [hx,hy]
 simp only [No,dC hu he hs (x:= .a8 l) (y:= .a8 m) (r:=decide (l=m)) hl hm rfl]
theorem ZM{x y:Operand}{l m:AB 8}{n e:Nat}(hx:AC T x= .agg (.a8 l))(hy:AC T y= .agg (.a8 m))(hu:P.underlying t=some (.array n e))(he:P.underlying e=some (.int .u8))(hs:De P e=some 1)(hl:l.length=n)(hm:m.length=n):
  AL P (AC T) M (.binOp .neq t x y t')=some (.c (.val (.bool (!decide (l=m))))):=by
 show No P .neq t x y (AC T x) (AC T y)=_
 rw [hx,hy]
 simp only [No,dC hu he hs (x:= .a8 l) (y:= .a8 m) (r:=decide (l=m)) hl hm rfl]
end
theorem CS_{p:Prop}(h:p:=by first | exact (rfl:_=some (Arr.ac [_])) | exact (rfl:_=some (Arr.ac [_,_])) | exact (rfl:_=some (Arr.ac [_,_,_])) | exact (rfl:_=some (Arr.ac [_,_,_,_])) | exact (rfl:_=some (Arr.ac [_,_,_,_,_])) | exact (rfl:_=some (Arr.ac [_,_,_,_,_,_]))):p:=h
theorem Ov{P:Program}{T:Nat→AV}{M:Ak}{op:Op}{b c:Bool}(h:AL P (AC T) M op=some (.c (.val (.bool b))))(hb:b=c):AL P (AC T) M op=some (.c (.val (.bool c))):=by rw [←hb];exact h
theorem Ai{P:Program}{T:Nat→AV}{M:Ak}{t f:Nat}{x:Operand}{b o:Nat}{v:AV}(hx:AC T x= .c (.ptr b o))(hf:BS P t (.c (.ptr b o)) f=some v):AL P (AC T) M (.fieldAddr t x f)=some v:=by
 show BS P t (AC T x) f=some v
 rw [hx];exact hf
def Ye(P:Program)(t:TypeId):Option (List (Nat×Nat)):=
 match P.underlying t with
 |some (.struct fields)=>fields.toList.mapM fun f=>(P.info? f.type).map fun i=>(f.offset,i.size)
 |_=>none
theorem OA{P:Program}{t:TypeId}{x:Arr}{places:List (Nat×Nat)}(hz:(P.info? t).bind (fun i=>i.zero.map fun z=>B5 z.cells.toList)=some x)(hp:Ye P t=some places)(parts:List (Nat×AV)):
  B0 P t parts=(HX (places.toArray[·]?) x parts).map .agg:=by
 obtain ⟨i,hi,hz2⟩:=Option.bind_eq_some_iff.1 hz
 obtain ⟨z,hz3,hz4⟩:=Option.map_eq_some_iff.1 hz2
 unfold Ye at hp
 split at hp
 ·rename_i fields hu
  unfold B0
  simp only [hi,hu,hz3,hp,hz4]
 ·cases hp
theorem ZW{P:Program}{t:TypeId}{x:Arr}(hz:(P.info? t).bind (fun i=>i.zero.map fun z=>B5 z.cells.toList)=some x)(hp:(Ye P t).isSome=true):B0 P t []=some (.agg x):=by
 obtain ⟨places,h⟩:=Option.isSome_iff_exists.1 hp
 rw [OA hz h]
 rfl
theorem fL{P:Program}{T:Nat→AV}{M:Ak}{t:Nat}{v:AV}(h:B0 P t []=some v):AL P (AC T) M (.build t #[])=some v:=h
theorem Ph{α:Type}(p q r m:List α)(n:Nat)(hn:p.length=n)(h:q.length=m.length):over (p++(q++r)) n m=p++(m++r):=by
 subst hn
 unfold over
 rw [List.take_left',List.append_assoc]
 ·congr 2
  rw [←List.append_assoc,List.drop_left']
  rw [List.length_append,h]
 ·rfl
theorem Py{pl:Nat→Option (Nat×Nat)}{i o n:Nat}{l a:AB 64}{rest:List (Nat×AV)}(h:pl i=some (o,n))(ha:a.length=n)(hl:o+n≤l.length):HX pl (.a64 l) ((i,.agg (.a64 a))::rest)=HX pl (.a64 (over l o a)) rest:=by
 subst ha
 have e:a.length=Arr.size (.a64 a)∧o+Arr.size (.a64 a)≤Arr.size (.a64 l):=⟨rfl,hl⟩
 simp only [HX,h]
 rw [if_pos e]
 rfl
theorem kE{pl:Nat→Option (Nat×Nat)}{n:Nat}{a b c d:AB 64}(h0:pl 0=some (0,n))(h1:pl 1=some (n,n))(h2:pl 2=some (n+n,n))(h3:pl 3=some (n+n+n,n))(ha:a.length=n)(hb:b.length=n)(hc:c.length=n)(hd:d.length=n):
  HX pl (.a64 (Aj (n+n+n+n))) [(0,.agg (.a64 a)),(1,.agg (.a64 b)),(2,.agg (.a64 c)),(3,.agg (.a64 d))]=some (.a64 (a++b++c++d)):=by
 have z:Aj (n+n+n+n)=[]++(Aj n++(Aj n++(Aj n++Aj n))):=by
  unfold Aj
  rw [List.nil_append,List.replicate_append_replicate,List.replicate_append_replicate,List.replicate_append_replicate]
  congr 1
  omega
 have lz:(Aj n).length=n:=by simp
 rw [z,Py h0 ha (by simp only [List.length_append,List.length_nil,lz];omega),Ph [] (Aj n) _ a 0 rfl (by rw [lz,ha]),List.nil_append]
 rw [Py h1 hb (by simp only [List.length_append,lz,ha];omega),Ph a (Aj n) _ b n ha (by rw [lz,hb]),←List.append_assoc a b]
 rw [Py h2 hc (by simp only [List.length_append,lz,ha,hb];omega),Ph (a++b) (Aj n) _ c (n+n) (by rw [List.length_append,ha,hb]) (by rw [lz,hc]),←List.append_assoc (a++b) c]
 rw [Py h3 hd (by simp only [List.length_append,lz,ha,hb,hc];omega)]
 have:=Ph (a++b++c) (Aj n) [] d (n+n+n) (by rw [List.length_append,List.length_append,ha,hb,hc]) (by rw [lz,hd])
 rw [List.append_nil,List.append_nil] at this
 rw [this]
 rfl
theorem rC{P:Program}{T:Nat→AV}{M:Ak}{t:Nat}{x0 x1 x2 x3:Operand}{a b c d:AB 64}{v:AV}(h0:AC T x0= .agg (.a64 a))(h1:AC T x1= .agg (.a64 b))(h2:AC T x2= .agg (.a64 c))(h3:AC T x3= .agg (.a64 d))
  (h:B0 P t [(0,.agg (.a64 a)),(1,.agg (.a64 b)),(2,.agg (.a64 c)),(3,.agg (.a64 d))]=some v):AL P (AC T) M (.build t #[(0,x0),(1,x1),(2,x2),(3,x3)])=some v:=by
 show B0 P t [(0,AC T x0),(1,AC T x1),(2,AC T x2),(3,AC T x3)]=some v
 rw [h0,h1,h2,h3];exact h
def Kt(ι:Emb)(w:World)(b:Nat):Emb:=⟨ι.f,fun c o v=>ι.tx c o v∨ ∃l,ι b=some l∧c=l.c∧ ∃cs t fr,w.heap[c]?=some (.cells cs t fr)∧cs[o]?=some v⟩
theorem Zg(ι:Emb)(w:World)(b:Nat):ι.le (Kt ι w b):=⟨fun _ _ h=>h,fun _ _ _ h=> .inl h⟩
theorem Pj{k:Nat}{ι:Emb}{M:Ak}{w:World}{b:Nat}{x:Arr}(hk:k≤M.length)(hR:R ι M w)(hm:M[b]?=some (.row true x)):Step k ι M w (Kt ι w b) (M.set b .dead) w:=by
 have src:∀ {i:Nat} {own:Bool} {y:Arr},(M.set b .dead)[i]?=some (.row own y)→i≠b∧M[i]?=some (.row own y):=fun {i own y} h=>by
  rcases CN h with ⟨h1,h2⟩ | ⟨_,h2⟩
  ·exact ⟨h1,h2⟩
  ·cases h2
 refine ⟨⟨fun i hi=>hR.dom i (by simpa using hi),fun i l own y h1 h2=>?_,fun i i' l l' own own' y y' hne h1 h2 h3 h4 ho=>?_,fun c Φ hc=>?_⟩,⟨rfl,rfl,rfl,Nat.le_refl _,fun _ _ _=>rfl,fun c hc=>?_⟩,fun _ _ _ h=> .inl h,fun c o v hc=>?_,fun _ _=>rfl,by simpa using hk,fun i y hi h=>?_,fun i own y hi h=>⟨y,(src h).2⟩,fun i l own y hi h1 h2=> .inr (.inr ⟨i,l,own,y,hi,h1,(src h2).2,rfl⟩)⟩
 ·exact (hR.rows i l own y h1 (src h2).2).mono (Zg ι w b)
 ·exact hR.inj i i' l l' own own' y y' hne h1 h2 (src h3).2 (src h4).2 ho
 ·have keep:∀ {Ψ:Obj→Prop},Il ι c Ψ→(∃ob,w.heap[c]?=some ob∧Ψ ob)∧ ∀i l y,(Kt ι w b) i=some l→(M.set b .dead)[i]?=some (.row true y)→l.c≠c:=fun k=>⟨(hR.stay c _ k).1,fun i l y h1 h2=>(hR.stay c _ k).2 i l y h1 (src h2).2⟩
  cases hc with
  |base k=>exact keep (.base k)
  |tx hc=>
   rcases hc with hc | ⟨l,hl,rfl,hcs⟩
   ·exact keep (.tx hc)
   ·obtain ⟨cs,t,fr,h1,h2⟩:=hcs
    refine ⟨⟨_,h1,cs,t,fr,rfl,h2⟩,fun i l' y h3 h4=>?_⟩
    obtain ⟨h5,h6⟩:=src h4
    exact hR.inj i b l' l true true y x h5 h3 hl h6 hm (.inl rfl)
 ·obtain ⟨i,l,y,h1,h2,rfl⟩:=hc
  exact .inr ⟨i,l,y,h1,(src h2).2,rfl⟩
 ·rcases hc with hc | ⟨l,hl,rfl,_⟩
  ·exact .inl hc
  ·exact .inr (.inr ⟨b,l,x,hl,hm,rfl⟩)
 ·rw [List.getElem?_set_ne (fun e=>by subst e;rw [hm] at h;cases h)];exact h
theorem dU{ι:Emb}{M:Ak}{w:World}{b o len cap:Nat}{x:Arr}(hR:R ι M w)(hm:M[b]?=some (.row true x))(hx:x.isMap=false)(ho:o+len≤x.size){g:Nat→Value}(hg:∀i u,i<len→(x.get (o+i)).rel ι u→u=g i){v:Value}(hv:Cell.rel ι (.sl b o len cap 1) v):Co (Kt ι w b) g len v:=by
 obtain ⟨p,cap',rfl,_,h2,h3⟩:=hv
 refine ⟨p,cap',rfl,h2,?_⟩
 rcases h3 with h3 | ⟨l,hl,rfl,h4⟩
 ·exact .inl h3
 ·by_cases h0:cap'=0
  ·exact .inl h0
  ·obtain ⟨cs,t,fr,k1,k2,k3,k4⟩:=hR.cells hl hm hx
   obtain ⟨_,k5⟩:=k4 rfl
   have hlt:l.off<cs.size:=by omega
   refine .inr ⟨l.c,l.off+o,rfl,⟨l.off,cs[l.off],.inr ⟨l,hl,rfl,cs,t,fr,k1,by simp [hlt]⟩⟩,fun i hi=>?_⟩
   obtain ⟨u,e1,e2⟩:=k3 (o+i) O_
   obtain rfl:=hg i u hi e2
   exact .inr ⟨l,hl,rfl,cs,t,fr,k1,by rw [Nat.add_assoc];exact e1⟩
theorem lF{ι:Emb}{M:Ak}{w:World}{b o len cap:Nat}{x:AB 8}(hR:R ι M w)(hm:M[b]?=some (.row true (.a8 x)))(ho:o+len≤x.length){v:Value}(hv:Cell.rel ι (.sl b o len cap 1) v):Cell.rel (Kt ι w b) (.bs (cut x o len)) v:=by
 have hl:(cut x o len).length=len:=by rw [Ck];omega
 show Co _ _ (cut x o len).length v
 rw [hl]
 refine dU hR hm rfl ho (fun i u hi h=>?_) hv
 rw [show nth (cut x o len) i=nth x (o+i) from Pa x o len i _ hi]
 exact h
theorem kJ{ι:Emb}{M:Ak}{w:World}{b o len cap:Nat}{x:List Int}(hR:R ι M w)(hm:M[b]?=some (.row true (.ai x)))(ho:o+len≤x.length){v:Value}(hv:Cell.rel ι (.sl b o len cap 1) v):Cell.rel (Kt ι w b) (.is (cut x o len)) v:=by
 have hl:(cut x o len).length=len:=by rw [Ck];omega
 show Co _ _ (cut x o len).length v
 rw [hl]
 refine dU hR hm rfl ho (fun i u hi h=>?_) hv
 rw [show (cut x o len).getD i 0=x.getD (o+i) 0 from Pa x o len i _ hi]
 exact h
theorem Ev.opPost{P:Program}{op:Op}{e:Operand→AV}{m M1 M2:Ak}{v v':AV}(h:Ev P (.op op e m) (.val v M1))(hp:∀(ι:Emb) (w:World) (u:Value),m.length≤M1.length→R ι M1 w→v.rel ι u→ ∃ι',v'.rel ι' u∧Step m.length ι M1 w ι' M2 w):Ev P (.op op e m) (.val v' M2):=by
 refine Ev.sem fun O ι w ρ hO hR hρ=>?_
 rcases sound h O ι w ρ hO hR hρ with ⟨u,w',ι',hr,hv,hst⟩ | ⟨f,args,hr,hc⟩
 ·obtain ⟨ι2,g1,g2⟩:=hp ι' w' u hst.len hst.r hv
  exact .inl ⟨u,w',ι2,hr,g1,hst.comp g2⟩
 ·refine .inr ⟨f,args,hr,hc.mono fun e' w' ⟨u,ι',he,hv,hst⟩=>?_⟩
  obtain ⟨ι2,g1,g2⟩:=hp ι' w' u hst.len hst.r hv
  exact ⟨u,ι2,he,g1,hst.comp g2⟩
theorem YB{ι:Emb}{M:Ak}{w:World}{b n cap:Nat}{x:AB 8}(hR:R ι M w)(hm:M[b]?=some (.row true (.a8 x)))(hn:x.length=n){v:Value}(hv:Cell.rel ι (.sl b 0 n cap 1) v):Cell.rel (Kt ι w b) (.bs x) v:=by
 have:=lF hR hm O_ hv
 rwa [HL hn] at this
theorem Xc{ι:Emb}{M:Ak}{w:World}{b n cap:Nat}{x:List Int}(hR:R ι M w)(hm:M[b]?=some (.row true (.ai x)))(hn:x.length=n){v:Value}(hv:Cell.rel ι (.sl b 0 n cap 1) v):Cell.rel (Kt ι w b) (.is x) v:=by
 have:=kJ hR hm O_ hv
 rwa [HL hn] at this
section
variable {P:Program} {op:Op} {e:Operand→AV} {m M1 M2:Ak} {b n cap:Nat} {r:List AV}
theorem sa{x:AB 8}(h:Ev P (.op op e m) (.val (.c (.sl b 0 n cap 1)) M1))(hm:M1[b]?=some (.row true (.a8 x)))(hn:x.length=n)(hM:M1.set b .dead=M2):Ev P (.op op e m) (.val (.c (.bs x)) M2):=by
 subst hM
 exact Ev.opPost h fun ι w u hk hR hv=>⟨_,YB hR hm hn hv,Pj hk hR hm⟩
theorem sn{x:List Int}(h:Ev P (.op op e m) (.val (.c (.sl b 0 n cap 1)) M1))(hm:M1[b]?=some (.row true (.ai x)))(hn:x.length=n)(hM:M1.set b .dead=M2):Ev P (.op op e m) (.val (.c (.is x)) M2):=by
 subst hM
 exact Ev.opPost h fun ι w u hk hR hv=>⟨_,Xc hR hm hn hv,Pj hk hR hm⟩
end
section
variable {P:Program} {k N:Nat} {c:Code} {T:Nat→AV} {M M':Ak} {Φ:Ex→St→Prop}
theorem HD(d:Nat){b n cap:Nat}{x:AB 8}(hd:T d= .c (.sl b 0 n cap 1))(hb:M[b]?=some (.row true (.a8 x)))(hn:x.length=n)(hM:M.set b .dead=M')(h:WC P k c ⟨N,upd T d (.c (.bs x)),M'⟩ Φ):WC P k c ⟨N,T,M⟩ Φ:=by
 subst hM
 obtain ⟨e,r,h1,h2⟩:=h.h
 refine ⟨⟨e,r,Ev.weak ?_ h1,h2⟩⟩
 intro ι w a hk hR hf
 refine ⟨_,PX (s:=⟨N,T,M⟩) d (hf.mono (Zg ι w b) M) rfl rfl ?_,Pj hk hR hb⟩
 intro u hu
 have hu':=hf.rel d
 change (T d).rel _ u at hu
 rw [hd] at hu
 obtain ⟨p,c',rfl,h3,h4,h5⟩:=hu
 exact YB hR hb hn ⟨p,c',rfl,h3,h4,h5⟩
theorem gY(d:Nat){b n cap:Nat}{x:List Int}(hd:T d= .c (.sl b 0 n cap 1))(hb:M[b]?=some (.row true (.ai x)))(hn:x.length=n)(hM:M.set b .dead=M')(h:WC P k c ⟨N,upd T d (.c (.is x)),M'⟩ Φ):WC P k c ⟨N,T,M⟩ Φ:=by
 subst hM
 obtain ⟨e,r,h1,h2⟩:=h.h
 refine ⟨⟨e,r,Ev.weak ?_ h1,h2⟩⟩
 intro ι w a hk hR hf
 refine ⟨_,PX (s:=⟨N,T,M⟩) d (hf.mono (Zg ι w b) M) rfl rfl ?_,Pj hk hR hb⟩
 intro u hu
 change (T d).rel _ u at hu
 rw [hd] at hu
 obtain ⟨p,c',rfl,h3,h4,h5⟩:=hu
 exact Xc hR hb hn ⟨p,c',rfl,h3,h4,h5⟩
theorem OK(d:Nat)(hd:T d= .c .nsl)(h:WC P k c ⟨N,upd T d (.c (.bs [])),M⟩ Φ):WC P k c ⟨N,T,M⟩ Φ:=by
 obtain ⟨e,r,h1,h2⟩:=h.h
 refine ⟨⟨e,r,Ev.weak ?_ h1,h2⟩⟩
 intro ι w a hk hR hf
 refine ⟨ι,PX (s:=⟨N,T,M⟩) d hf rfl rfl ?_,Step.refl hR hk⟩
 intro u hu
 change (T d).rel ι u at hu
 rw [hd] at hu
 change u=_ at hu
 subst hu
 exact ⟨none,0,rfl,Nat.le_refl _,.inl rfl⟩
end
end Go.Proofs.YtmbepikkgkcgkaaGreatDoor
