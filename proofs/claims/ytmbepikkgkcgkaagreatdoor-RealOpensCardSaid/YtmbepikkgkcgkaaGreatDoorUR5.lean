/- Merged and shortened by a program: part 5. -/
import Derived.Test.YtmbepikkgkcgkaaGreatDoorUR4
set_option maxRecDepth 100000
set_option maxHeartbeats 8000000
namespace Go.Proofs.YtmbepikkgkcgkaaGreatDoor
open Go.RowKit
variable {g r : Prop}
open Go.Proofs.Tryz
theorem zK{P:Program}{op:Op}{e:Operand→AV}{m N:Az}{v:AV}(h:Ev P (.op op e m) (.val v (m++N)))(hr:kF m.length m=true)(hv:v.ren (bR m.length)=v):Ev P (.op op e m) (.val v m):=
 Ev.opPost h fun ι w u hk hR hu=>⟨_,by have:=AV.ren_rel (lq m.length ι) hu;rwa [hv] at this,xL (Nat.le_refl _) hR hr⟩
section
variable {P:Program} {e:Operand→AV} {M M':Az} {t t' el:TypeId}
theorem tO{l:AA 8}{by' len n:Nat}{ps:Array (Nat×Operand)}(hu:P.underlying t=some (.slice el))(he:CH P el=some (1,by'))(hd:GG 0 (ps.toList.map fun p=>(p.1,e p.2))=some (l.map U8))(hl:ps.toList.length=len)(h0:¬len=0)(h1:len≤16777216)(hn:M.length=n):
  Ev P (.op (.buildSlice t len ps) e M) (.val (.c (.xs n len)) (M++[.row true (.a8 l)])):=
 Ev.sem fun O ι w ρ hO hR hρ=>by
  obtain ⟨dst,op,ty,pos,af,gd⟩:=O
  subst hO;subst hn
  obtain ⟨i,z,hi,hz,hs1,hb1,hzs,hsz⟩:=LS he
  have hpr:=MO (e:=e) (ρ:=ρ) ps.toList fun p hp=>hρ p.2 (by simp [Op.operands];exact ⟨p.1,by simpa using hp⟩)
  have e1:(ps.map fun (i,x)=>(i,ρ x)).toList=ps.toList.map fun p=>(p.1,ρ p.2):=Array.toList_map
  rw [←e1] at hpr
  obtain ⟨g1,g2⟩:=MD hd hpr
  have hlen:l.length=len:=by
   have:=E1 hd
   rw [List.length_map,List.length_map,hl] at this
   exact this
  have hrun:=run_buildSlice (P:=P) w t el len (ps.map fun (i,x)=>(i,ρ x)) (l.map U8).toArray i z hu hi hz (by rw [hs1];omega) (by rw [hs1];omega) (by rw [g1,hs1];exact Uz g2 (by simp;omega))
  have hst:=Iq (w':=w.alloc (.cells (l.map U8).toArray el)) (x:= .a8 l) (t:=el) hR (cs:=(l.map U8).toArray) rfl rfl rfl rfl (by simp [Arr.size]) (fun j hj=>⟨U8 (nth l j),by
   have hj:j<l.length:=hj
   rw [Nat.zero_add,Qp l j hj]
   simp [hj],rfl⟩) rfl
  exact .inl ⟨.slice (some ⟨w.heap.size,0,none⟩) len len,_,_,.inl (by simp [execOp,hrun]),⟨_,Emb.upd_eq _ _ _,rfl⟩,hst.1⟩
theorem rH{x:Operand}{b n:Nat}{l:AA 8}(hx:e x= .c (.xs b n))(ht:P.underlying t=some (.slice el))(he:P.underlying el=some (.int .u8))(hm:M[b]?=some (.row true (.a8 l)))(hn:l.length=n)(hM:M.set b .dead=M'):
  Ev P (.op (.convert t t x) e M) (.val (.c (.lb l)) M'):=
 Ev.sem fun O ι w ρ hO hR hρ=>by
  obtain ⟨dst,op,ty,pos,af,gd⟩:=O
  subst hO;subst hM;subst hn
  have h1:=hρ x (by simp [Op.operands])
  rw [hx] at h1
  obtain ⟨lc,hl,hv⟩:=h1
  obtain ⟨cs,tt,fr,k1,k2,k3,k4⟩:=hR.cells hl hm rfl
  have hsh:w.shape? lc.c=some (tt,cs.size):=by simp only [World.shape?,k1]
  have hrun:(convert t t (.slice (some ⟨lc.c,lc.off,none⟩) l.length l.length)).run P w= .ok (.slice (some ⟨lc.c,lc.off,none⟩) l.length l.length) (w.freeze ⟨lc.c,cs.size,none⟩ 1):=by
   simp [convert,run_underlying ht,run_underlying he,markStringish,hsh]
  have hw:(w.freeze ⟨lc.c,cs.size,none⟩ 1).os=w.os∧(w.freeze ⟨lc.c,cs.size,none⟩ 1).tape=w.tape∧(w.freeze ⟨lc.c,cs.size,none⟩ 1).output=w.output∧(w.freeze ⟨lc.c,cs.size,none⟩ 1).heap.size=w.heap.size:=by
   unfold World.freeze
   rw [if_neg O_]
   exact ⟨rfl,rfl,rfl,by simp⟩
  have hoth:∀c,c≠lc.c→(w.freeze ⟨lc.c,cs.size,none⟩ 1).heap[c]?=w.heap[c]?:=fun c hc=>by
   unfold World.freeze
   rw [if_neg O_]
   simp only [Array.getElem?_modify]
   rw [if_neg (fun h=>hc h.symm)]
  have hat:∃fr',(w.freeze ⟨lc.c,cs.size,none⟩ 1).heap[lc.c]?=some (.cells cs tt fr'):=by
   unfold World.freeze
   rw [if_neg O_]
   simp only [Array.getElem?_modify,if_true,k1]
   exact ⟨_,rfl⟩
  obtain ⟨fr',hat⟩:=hat
  have hst:=pn (Nat.le_refl _) hR hl hm hw.1 hw.2.1 hw.2.2.1 hw.2.2.2 hoth
  refine .inl ⟨.slice (some ⟨lc.c,lc.off,none⟩) l.length l.length,_,_,.inl (by simp [execOp,hv,hrun]),⟨⟨some ⟨lc.c,lc.off,none⟩,l.length,rfl,Nat.le_refl _,?_⟩,some ⟨lc.c,lc.off,none⟩,rfl⟩,hst⟩
  by_cases h0:l.length=0
  ·exact .inl h0
  ·refine .inr ⟨lc.c,lc.off,rfl,⟨lc.off,U8 (nth l 0),.inr ⟨rfl,cs,tt,fr',hat,?_⟩⟩,fun i hi=> .inr ⟨rfl,cs,tt,fr',hat,?_⟩⟩
   ·obtain ⟨u,e1,e2⟩:=k3 0 (by show 0<l.length;omega)
    obtain rfl:u=U8 (nth l 0):=e2
    exact e1
   ·obtain ⟨u,e1,e2⟩:=k3 i hi
    obtain rfl:u=U8 (nth l i):=e2
    exact e1
theorem zA{s x:Operand}{l y:AA 8}{n by':Nat}(hs:e s= .c (.lb l))(hx:G5 M 1 (e x)=some (n,.a8 y))(hu:P.underlying t=some (.slice el))(hu2:P.underlying t'=some (.slice el))(he:CH P el=some (1,by'))(hb:(l.length+n)*by'≤140737488355328∧l.length+n≤9223372036854775807):
  Ev P (.op (.call { callee:= .builtin .append,args:= #[s,x],argTypes:= #[t,t'] }) e M) (.val (.c (.bs (l++y))) M):=
 Ev.sem fun O ι w ρ hO hR hρ=>by
  obtain ⟨dst,op,ty,pos,af,gd⟩:=O
  subst hO
  have h1:=hρ s (by simp [Op.operands,Call.operands])
  have h2:=hρ x (by simp [Op.operands,Call.operands])
  rw [hs] at h1
  obtain ⟨hst,pp,hp⟩:=h1
  obtain ⟨i,z,hi,hz,hs1,hb1,hzs,hsz⟩:=LS he
  obtain ⟨qa,c,news,hq,hnc,hsh⟩:=LR hx O_ hR h2
  obtain ⟨pp',cp,olds,hp',hle,hold⟩:=VJ (M:=M) (y:= .a8 l) (g:=fun i=>U8 (nth l i)) rfl hR hst fun i hi=>rfl
  rw [hp] at hp'
  cases hp'
  have hyn:y.length=n:=by have:=hsh.size;simpa [Arr.size] using this
  have hol:olds.length=l.length:=by have:=hold.len;rw [Nat.mul_one] at this;exact this
  have hnl:news.length=n:=by have:=hsh.len;simpa using this
  have nt:HE P t'=true:=by simp [HE,hu2]
  rcases NE (P:=P) (w:=w) t t' ty el i z hu nt hi hz pp qa l.length l.length n c olds news (fun w' hw=>by rw [hs1];exact hold.first P l.length w' hw) (fun w' hw=>by rw [hs1];exact hsh.first P c w' hw) (by rw [hb1];exact hb.1) hb.2 with ⟨hr,er⟩ | ⟨hr,cap',hcap,er⟩
  ·obtain rfl:n=0:=by omega
   obtain rfl:y=[]:=List.eq_nil_of_length_eq_zero hyn
   obtain rfl:news=[]:=List.eq_nil_of_length_eq_zero hnl
   refine .inl ⟨.slice pp l.length l.length,w,ι,.inl ?_,?_,Step.refl hR (Nat.le_refl _)⟩
   ·cases pp<;>simp [execOp,resolve,invoke,builtin,hp,hq,er,storeCells]
   ·rw [List.append_nil]
    rw [hp] at hst
    exact hst
  ·have hsta:=oK (w':=w.drew.alloc (.cells (olds.toArray++news.toArray++Builtin.zeroCells z.cells (cap'-(l.length+n))) el)) (t:=el) hR (cs:=olds.toArray++news.toArray++Builtin.zeroCells z.cells (cap'-(l.length+n))) rfl rfl rfl rfl
   refine .inl ⟨.slice (some ⟨w.heap.size,0,none⟩) (l.length+n) cap',_,_,.inl ?_,?_,hsta⟩
   ·simp [execOp,resolve,invoke,builtin,hp,hq,er]
   ·have cell:∀j,j<(l++y).length→(olds.toArray++news.toArray++Builtin.zeroCells z.cells (cap'-(l.length+n)))[j]?=some (U8 (nth (l++y) j)):=by
     intro j hj
     rw [List.length_append,hyn] at hj
     rw [Array.getElem?_append_left (by simp;omega)]
     by_cases hjl:j<l.length
     ·rw [Array.getElem?_append_left (by simp;omega)]
      obtain ⟨u,e1,e2⟩:=hold.rel j hjl
      obtain rfl:u=U8 (nth l j):=e2
      rw [show nth (l++y) j=nth l j by unfold nth;rw [IV,if_pos hjl]]
      simpa using e1
     ·rw [Array.getElem?_append_right (by simp;omega)]
      obtain ⟨u,e1,e2⟩:=hsh.rel (j-l.length) (by show _<y.length;omega)
      obtain rfl:u=U8 (nth y (j-l.length)):=e2
      rw [show nth (l++y) j=nth y (j-l.length) by unfold nth;rw [IV,if_neg hjl]]
      simp only [List.size_toArray,hol]
      simpa using e1
    have hlen:(l++y).length=l.length+n:=by rw [List.length_append,hyn]
    refine ⟨_,cap',by rw [hlen],by omega,.inr ⟨w.heap.size,0,rfl,⟨0,U8 (nth (l++y) 0),.inr ⟨rfl,?_⟩⟩,fun j hj=> .inr ⟨rfl,?_⟩⟩⟩
    ·exact cell 0 O_
    ·rw [Nat.zero_add];exact cell j hj
end
def Region.okChain(ops:Array Oper)(cs:List Nat)(size:Nat):Bool:=
 Region.okX ops ops.size size&&(List.range ops.size).all fun i=>match ops[i]? with
  |some o=>o.guard.isNone&&(!cs.contains i || (List.range ops.size).all fun j=> !cs.contains j || !decide (i<j) || XY ops j i)&&o.after.all fun e=> !Region.binds .any e || decide (e.on<i)
  |none=>true
structure OkC(ops:Array Oper)(cs:List Nat)(size:Nat):Prop where
 ok:wm ops ops.size size
 guard:∀(i:Nat) (o:Oper),ops[i]?=some o→o.guard=none
 chain:∀(i j:Nat),i<j→j<ops.size→cs.contains i=true→cs.contains j=true→XY ops j i=true
 back:∀(i:Nat) (o:Oper) (e:Edge),ops[i]?=some o→e∈o.after→Region.binds .any e=true→e.on<i
theorem Region.okChain_spec{ops:Array Oper}{cs:List Nat}{size:Nat}(h:Region.okChain ops cs size=true):OkC ops cs size:=by
 simp only [Region.okChain,Bool.and_eq_true,List.all_eq_true,List.mem_range] at h
 obtain ⟨h1,h2⟩:=h
 have lt:∀ {i:Nat} {o:Oper},ops[i]?=some o→i<ops.size:=fun ho=>(Array.getElem?_eq_some_iff.1 ho).1
 refine ⟨Region.okX_spec h1,fun i o ho=>?_,fun i j hij hj hs hs'=>?_,fun i o e ho he hb=>?_⟩
 ·have:=h2 i (lt ho)
  rw [ho] at this
  simp only [Bool.and_eq_true,Option.isNone_iff_eq_none] at this
  exact this.1.1
 ·have:=h2 i O_
  rw [Array.getElem?_eq_getElem (show i<ops.size by omega)] at this
  simp only [Bool.and_eq_true,Bool.or_eq_true,hs,Bool.not_true,Bool.false_eq_true,false_or,List.all_eq_true,List.mem_range] at this
  have:=this.1.2 j hj
  rw [hs'] at this
  simpa [hij] using this
 ·have:=h2 i (lt ho)
  rw [ho] at this
  simp only [Bool.and_eq_true] at this
  have:=Array.all_eq_true_iff_forall_mem.1 this.2 e he
  simpa [hb] using this
def Su(P:Program)(o:Oper)(e:Operand→AV)(m:Az)(v:AV):Prop:= ∀(ι:Emb) (w:World) (ρ:Operand→Value),R ι m w→(∀x∈o.op.operands,(e x).rel ι (ρ x))→Xc P ρ o ι m w v m
structure Jt(P:Program)(ops:Array Oper)(cs:List Nat)(A:Nat→St)(V:Nat→AV)(N0:Nat):Prop where
 h0:(A 0).n=N0
 pure:∀(i:Nat) (o:Oper),ops[i]?=some o→cs.contains i=false→(∀c,c≤ops.size→(∀j,j<c→cs.contains j=true→XY ops j i=false)→Su P o (AF (A i).t) (A c).m (V i))∧A (i+1)=⟨N0,DX (A i).t o.dst (V i),(A i).m⟩
 chain:∀(i:Nat) (o:Oper),ops[i]?=some o→cs.contains i=true→ ∃m',R5 P (.op o.op (AF (A i).t) (A i).m) (.val (V i) m')∧A (i+1)=⟨N0,DX (A i).t o.dst (V i),m'⟩
section
variable {P:Program} {ops:Array Oper} {cs:List Nat} {A:Nat→St} {V:Nat→AV} {N0:Nat}
theorem Jt.next(h:Jt P ops cs A V N0){i:Nat}{o:Oper}(ho:ops[i]?=some o):∃m',A (i+1)=⟨N0,DX (A i).t o.dst (V i),m'⟩:=by
 cases hs:cs.contains i with
 |true=>obtain ⟨m',_,e⟩:=h.chain i o ho hs;exact ⟨m',e⟩
 |false=>exact ⟨_,(h.pure i o ho hs).2⟩
theorem Jt.tmp1(h:Jt P ops cs A V N0){i:Nat}(hi:i<ops.size){t:Nat}(ht:Bm ops i≠some t):(A (i+1)).t t=(A i).t t:=by
 have ho:ops[i]?=some (ops[i]'hi):=Array.getElem?_eq_getElem hi
 have hd:Bm ops i=(ops[i]'hi).dst:=by simp [Bm,ho]
 rw [hd] at ht
 obtain ⟨m',e⟩:=h.next ho
 rw [e]
 show DX (A i).t (ops[i]'hi).dst (V i) t=_
 cases hdd:(ops[i]'hi).dst with
 |none=>rfl
 |some d=>rw [hdd] at ht;exact upd_ne _ _ (fun e=>ht (by rw [e]))
theorem Jt.slot(h:Jt P ops cs A V N0){i t:Nat}:∀d,i+d≤ops.size→(∀j,i≤j→j<i+d→Bm ops j≠some t)→(A (i+d)).t t=(A i).t t
 |0,_,_=>rfl
 |d+1,hd,hno=>by
  rw [show i+(d+1)=i+d+1 by omega,h.tmp1 O_ (hno _ O_ O_),Jt.slot h d O_ fun j h1 h2=>hno j h1 O_]
theorem Jt.slot'(h:Jt P ops cs A V N0){i j t:Nat}(hij:i≤j)(hj:j≤ops.size)(hno:∀l,i≤l→l<j→Bm ops l≠some t):(A j).t t=(A i).t t:=by
 have:=h.slot (i:=i) (t:=t) (j-i) O_ (fun l h1 h2=>hno l h1 O_)
 rwa [show i+(j-i)=j by omega] at this
theorem Jt.mem(h:Jt P ops cs A V N0){i:Nat}:∀d,i+d≤ops.size→(∀j,i≤j→j<i+d→cs.contains j=false)→(A (i+d)).m=(A i).m
 |0,_,_=>rfl
 |d+1,hd,hno=>by
  have hlt:i+d<ops.size:=by omega
  have ho:ops[i+d]?=some (ops[i+d]'hlt):=Array.getElem?_eq_getElem hlt
  obtain ⟨_,e⟩:=h.pure (i+d) _ ho (hno _ O_ O_)
  rw [show i+(d+1)=i+d+1 by omega,e]
  exact Jt.mem h d O_ fun j h1 h2=>hno j h1 O_
theorem Jt.mem'(h:Jt P ops cs A V N0){i j:Nat}(hij:i≤j)(hj:j≤ops.size)(hno:∀l,i≤l→l<j→cs.contains l=false):(A j).m=(A i).m:=by
 have:=h.mem (i:=i) (j-i) O_ (fun l h1 h2=>hno l h1 O_)
 rwa [show i+(j-i)=j by omega] at this
structure ZB(ops:Array Oper)(cs:List Nat)(A:Nat→St)(k:Nat)(ι0:Emb)(w0:World)(a0:Act)(listed:Array Bool)(ι:Emb)(a:Act)(w:World):Prop where
 cut:∃j,j≤ops.size∧(∀i,i<ops.size→cs.contains i=true→(listed.getD i false=true↔i<j))∧Step k ι0 (A 0).m w0 ι (A j).m w
 le:ι0.le ι
 hit:∀j,j<ops.size→listed.getD j false=true→ ∀d,Bm ops j=some d→((A (j+1)).t d).rel ι (a.tmps.getD d undef)
 miss:∀t,(∀j,j<ops.size→listed.getD j false=true→Bm ops j≠some t)→a.tmps.getD t undef=a0.tmps.getD t undef
 size:a.tmps.size=a0.tmps.size
 defers:a.defers=a0.defers
 head:HeadInv .any ops ops.size listed
theorem ZB.agree(hl:Jt P ops cs A V N0){k:Nat}{ι0:Emb}{w0:World}{a0:Act}(hok:wm ops ops.size a0.tmps.size)(hf:EZ ι0 (A 0) a0){listed:Array Bool}{ι:Emb}{a:Act}{w:World}(h:ZB ops cs A k ι0 w0 a0 listed ι a w)
  {i:Nat} (hin:i<ops.size) {o:Oper} (ho:ops[i]?=some o) (hb:∀j,XY ops i j=true→listed.getD j false=true) (hun:listed.getD i false=false):
  ∀t∈o.looksAt ops,((A i).t t).rel ι (a.tmps.getD t undef):=by
 intro t ht
 by_cases hex:∃j,j<ops.size∧Bm ops j=some t
 ·obtain ⟨j,hj,hd⟩:=hex
  rcases hok.look i o t j hin ho ht hj hd with ⟨hji,hbij⟩ | ⟨hij,hbji⟩
  ·have hlj:=hb j hbij
   rw [hl.slot' (i:=j+1) O_ (Nat.le_of_lt hin) (fun l h1 h2 hd'=>by have:=hok.uniq l j t O_ hj hd' hd;omega)]
   exact h.hit j hj hlj t hd
  ·have hnl:listed.getD j false≠true:=fun hlt=>by
    have:=E5 h.head.closed hbji (Array.getElem?_eq_getElem hj) (h.head.closed j _ (Array.getElem?_eq_getElem hj) hlt)
    rw [hun] at this;cases this
   rw [h.miss t (fun j' hj' hl' hd'=>hnl (by rw [←hok.uniq j' j t hj' hj hd' hd];exact hl')),hl.slot' (i:=0) (Nat.zero_le i) (Nat.le_of_lt hin) (fun l _ h2 hd'=>by have:=hok.uniq l j t O_ hj hd' hd;omega)]
   exact AV.rel_mono h.le (hf.rel t)
 ·have hno:∀j,j<ops.size→Bm ops j≠some t:=fun j hj hd=>hex ⟨j,hj,hd⟩
  rw [h.miss t (fun j hj _=>hno j hj),hl.slot' (i:=0) (Nat.zero_le i) (Nat.le_of_lt hin) (fun l _ h2=>hno l O_)]
  exact AV.rel_mono h.le (hf.rel t)
theorem ZB.next{k:Nat}{ι0:Emb}{w0:World}{a0:Act}(hok:wm ops ops.size a0.tmps.size){listed:Array Bool}{ι ι':Emb}{a:Act}{w:World}(h:ZB ops cs A k ι0 w0 a0 listed ι a w)(hle:ι.le ι')
  {i:Nat} (hi:i∈Region.ready .any ops listed) {o:Oper} (ho:ops[i]?=some o) {u:Value} {w':World}
  (hcut:∃j,j≤ops.size∧(∀i',i'<ops.size→cs.contains i'=true→((listed.setIfInBounds i true).getD i' false=true↔i'<j))∧Step k ι0 (A 0).m w0 ι' (A j).m w')
  (hu:∀d,o.dst=some d→((A (i+1)).t d).rel ι' u):ZB ops cs A k ι0 w0 a0 (listed.setIfInBounds i true) ι' (a.put o.dst u) w':=by
 have hin:i<ops.size:=(Array.getElem?_eq_some_iff.1 ho).1
 have his:i<listed.size:=by rw [h.head.size];exact hin
 have hd:Bm ops i=o.dst:=by simp [Bm,ho]
 have hset:∀j,(listed.setIfInBounds i true).getD j false=true→j=i∨listed.getD j false=true:=fun j hj=>by
  by_cases hji:i=j
  ·exact .inl hji.symm
  ·rw [getD_set_ne false hji] at hj;exact .inr hj
 have hseti:(listed.setIfInBounds i true).getD i false=true:=by simp [his]
 refine ⟨hcut,⟨fun b l hb=>hle.f b l (h.le.f b l hb),fun c o v hc=>hle.tx c o v (h.le.tx c o v hc)⟩,fun j hj hlj d hdj=>?_,fun t ht=>?_,by rw [show (a.put o.dst u).tmps.size=a.tmps.size by cases o.dst<;>simp [Act.put]];exact h.size,by rw [show (a.put o.dst u).defers=a.defers by cases o.dst<;>rfl];exact h.defers,h.head.set hi hin⟩
 ·by_cases hji:j=i
  ·subst hji
   rw [hd] at hdj
   rw [hdj,SB a d d u (by rw [h.size];exact hok.lt j d hj (by rw [hd];exact hdj)),if_pos rfl]
   exact hu d hdj
  ·have hlj':=(hset j hlj).resolve_left hji
   have hne:o.dst≠some d:=fun e=>hji (hok.uniq j i d hj hin hdj (by rw [hd];exact e))
   rw [Ml a u hne]
   exact AV.rel_mono hle (h.hit j hj hlj' d hdj)
 ·have h1:o.dst≠some t:=by rw [←hd];exact ht i hin hseti
  rw [Ml a u h1]
  exact h.miss t fun j hj hlj=>ht j hj (getD_set_true hlj)
theorem ZB.run{Q':Exit→Act→World→Prop}(hl:Jt P ops cs A V N0){k:Nat}{ι0:Emb}{w0:World}{a0:Act}(hS:OkC ops cs a0.tmps.size)(hf:EZ ι0 (A 0) a0){listed:Array Bool}{ι:Emb}{a:Act}{w:World}(h:ZB ops cs A k ι0 w0 a0 listed ι a w)
  {i:Nat} (hi:i∈Region.ready .any ops listed) {K:Act→World→Prop} (hK:∀ι' a' w',ZB ops cs A k ι0 w0 a0 (listed.setIfInBounds i true) ι' a' w'→K a' w'):wpOp P ops Q' i K a w:=by
 have hok:=hS.ok
 have hr:=mem_ready.1 hi
 have hun:listed.getD i false=false:=getD_both hr.1
 obtain ⟨_,o,ho,hall⟩:=hr
 have hin:i<ops.size:=(Array.getElem?_eq_some_iff.1 ho).1
 have hd:Bm ops i=o.dst:=by simp [Bm,ho]
 have hdeps:∀j,XY ops i j=true→listed.getD j false=true:=fun j hb=>E5 h.head.closed hb ho hall
 have hag:=h.agree hl hok hf hin ho hdeps hun
 have hopnd:∀x∈o.op.operands,(AF (A i).t x).rel ι (a.eval x):=by
  intro x hx
  cases x with
  |tmp t=>exact hag t (List.mem_append_left _ (List.mem_filterMap.2 ⟨.tmp t,by simpa using hx,rfl⟩))
  |const v=>exact AV.rel_of0 (Ru _ v)
  |global g=>trivial
  |func f=>rfl
 obtain ⟨c,hc,hcl,hst⟩:=h.cut
 have his:i<listed.size:=by rw [h.head.size];exact hin
 unfold wpOp
 simp only [ho]
 rw [show Region.wanted o (yielded ops a.tmps)=true by unfold Region.wanted;rw [hS.guard i o ho],if_pos rfl]
 refine .inl ?_;have hval:∀ {ι':Emb} {u:Value},(V i).rel ι' u→ ∀d,o.dst=some d→((A (i+1)).t d).rel ι' u:=fun hv d hdd=>by
  obtain ⟨m',e⟩:=hl.next ho
  rw [e]
  show (DX (A i).t o.dst (V i) d).rel _ _
  rw [hdd]
  show (upd (A i).t d (V i) d).rel _ _
  rw [upd_eq]
  exact hv
 cases hs:cs.contains i with
 |false=>
  obtain ⟨hv,hstep⟩:=hl.pure i o ho hs
  have hfree:∀j,j<c→cs.contains j=true→XY ops j i=false:=fun j hj hs'=>by
   have hjn:j<ops.size:=by omega
   have hlj:=(hcl j hjn hs').2 hj
   cases hb:XY ops j i with
   |false=>rfl
   |true=>
    have:=E5 h.head.closed hb (Array.getElem?_eq_getElem hjn) (h.head.closed j _ (Array.getElem?_eq_getElem hjn) hlj)
    rw [hun] at this;cases this
  refine (hv c hc hfree ι w a.eval hst.r hopnd).wp rfl fun u w' ι1 hv1 hst2=>?_
  refine hK ι1 _ _ (h.next hok (hst2.le hst.r) hi ho ⟨c,hc,fun i' hi' hs'=>?_,hst.comp (hst2.low hst.len)⟩ (hval hv1))
  have hne:i≠i':=fun e=>by subst e;rw [hs] at hs';cases hs'
  rw [getD_set_ne false hne]
  exact hcl i' hi' hs'
 |true=>
  obtain ⟨m',hv,hstep⟩:=hl.chain i o ho hs
  have hci:c≤i:=by
   have:=(hcl i hin hs).2
   rcases Nat.lt_or_ge i c with h' | h'
   ·rw [this h'] at hun;cases hun
   ·exact h'
  have hm:(A i).m=(A c).m:=by
   refine hl.mem' hci (Nat.le_of_lt hin) fun l h1 h2=>?_
   cases hs':cs.contains l with
   |false=>rfl
   |true=>
    have:=(hcl l O_ hs').1 (hdeps l (hS.chain l i h2 hin hs' hs))
    omega
  rw [←hm] at hst
  refine (hv o ι w a.eval rfl hst.r hopnd).wp rfl fun u w' ι1 hv1 hst2=>?_
  have hst3:Step k ι0 (A 0).m w0 ι1 (A (i+1)).m w':=by
   rw [hstep]
   exact hst.comp (hst2.low hst.len)
  refine hK ι1 _ _ (h.next hok (hst2.le hst.r) hi ho ⟨i+1,hin,fun i' hi' hs'=>?_,hst3⟩ (hval hv1))
  by_cases hne:i=i'
  ·subst hne;simp [his]
  ·rw [getD_set_ne false hne]
   constructor
   ·intro hli
    rcases Nat.lt_or_ge i' (i+1) with h' | h'
    ·exact h'
    ·have:=E5 h.head.closed (hS.chain i i' O_ hi' hs hs') (Array.getElem?_eq_getElem hi') (h.head.closed i' _ (Array.getElem?_eq_getElem hi') hli)
     rw [hun] at this;cases this
   ·intro hlt
    exact hdeps i' (hS.chain i' i O_ hin hs' hs)
theorem ZB.any{Q':Exit→Act→World→Prop}(hl:Jt P ops cs A V N0){k:Nat}{ι0:Emb}{w0:World}{a0:Act}(hS:OkC ops cs a0.tmps.size)(hf:EZ ι0 (A 0) a0)
  (hQ:∀ι' a' w',EZ ι' (A ops.size) a'→a'.defers=a0.defers→Step k ι0 (A 0).m w0 ι' (A ops.size).m w'→Q' .normal a' w'):
  ∀(f:Nat) (un:List Nat) (listed:Array Bool) (ι:Emb) (a:Act) (w:World),un.length=f→un.Nodup→(∀j,j∈un↔j<ops.size∧listed.getD j false=false)→ZB ops cs A k ι0 w0 a0 listed ι a w→wpAny P .any ops Q' f listed a w:=by
 have hok:=hS.ok
 intro f
 induction f with
 |zero=>
  intro un listed ι a w hlu _ hun h
  obtain rfl:un=[]:=List.length_eq_zero_iff.1 hlu
  have hdone:∀j,j<ops.size→listed.getD j false=true:=fun j hj=>by
   cases hb:listed.getD j false with
   |true=>rfl
   |false=>have:=(hun j).2 ⟨hj,hb⟩;simp at this
  have hnil:Region.ready .any ops listed=[]:=by
   cases hr:Region.ready .any ops listed with
   |nil=>rfl
   |cons x xs=>
    have hx:x∈Region.ready .any ops listed:=by rw [hr];exact List.mem_cons_self
    obtain ⟨h1,o,ho,_⟩:=mem_ready.1 hx
    have:=hdone x (Array.getElem?_eq_some_iff.1 ho).1
    rw [getD_both h1] at this;cases this
  refine ⟨hnil,?_⟩
  obtain ⟨c,hc,hcl,hst⟩:=h.cut
  have hm:(A ops.size).m=(A c).m:=by
   refine hl.mem' hc (Nat.le_refl _) fun l h1 h2=>?_
   cases hs':cs.contains l with
   |false=>rfl
   |true=>have:=(hcl l h2 hs').1 (hdone l h2);omega
  rw [←hm] at hst
  have hnn:(A ops.size).n=N0:=by
   cases hz:ops.size with
   |zero=>exact hl.h0
   |succ z=>
    have hlt:z<ops.size:=by omega
    obtain ⟨m',e⟩:=hl.next (Array.getElem?_eq_getElem hlt)
    rw [e]
  refine hQ ι a w ⟨by rw [h.size,hf.size,hl.h0,hnn],fun t=>?_⟩ h.defers hst
  by_cases hex:∃j,j<ops.size∧Bm ops j=some t
  ·obtain ⟨j,hj,hd⟩:=hex
   rw [hl.slot' (i:=j+1) O_ (Nat.le_refl _) (fun l h1 h2 hd'=>by have:=hok.uniq l j t O_ hj hd' hd;omega)]
   exact h.hit j hj (hdone j hj) t hd
  ·have hno:∀j,j<ops.size→Bm ops j≠some t:=fun j hj hd=>hex ⟨j,hj,hd⟩
   rw [h.miss t (fun j hj _=>hno j hj),hl.slot' (i:=0) (Nat.zero_le _) (Nat.le_refl _) (fun l _ h2=>hno l O_)]
   exact AV.rel_mono h.le (hf.rel t)
 |succ f ih=>
  intro un listed ι a w hlu hnd hun h
  refine ⟨fun hnil=>?_,fun i hi=>?_⟩
  ·obtain ⟨i0,hi0⟩:∃i0,i0∈un:=by cases un with | nil=>simp at hlu | cons x _=>exact ⟨x,List.mem_cons_self⟩
   have least:∀m i,i≤m→i∈un→ ∃j,j∈Region.ready .any ops listed:=by
    intro m
    induction m with
    |zero=>
     intro i him hiu
     obtain ⟨hin,hb⟩:=(hun i).1 hiu
     refine ⟨i,mem_ready.2 ⟨getD_in (by rw [h.head.size];exact hin) hb,ops[i]'hin,Array.getElem?_eq_getElem hin,fun e he hbind=>?_⟩⟩
     have:=hS.back i _ e (Array.getElem?_eq_getElem hin) he hbind
     omega
    |succ m ihm=>
     intro i him hiu
     obtain ⟨hin,hb⟩:=(hun i).1 hiu
     by_cases hall:∀e∈(ops[i]'hin).after,Region.binds .any e=true→listed.getD e.on false=true
     ·exact ⟨i,mem_ready.2 ⟨getD_in (by rw [h.head.size];exact hin) hb,_,Array.getElem?_eq_getElem hin,hall⟩⟩
     ·have:∃e∈(ops[i]'hin).after,Region.binds .any e=true∧listed.getD e.on false=false:=by
       apply Classical.byContradiction
       intro hc
       apply hall
       intro e he hbind
       cases hlb:listed.getD e.on false with
       |true=>rfl
       |false=>exact absurd ⟨e,he,hbind,hlb⟩ hc
      obtain ⟨e,he,hbind,hlb⟩:=this
      have hlt:=hS.back i _ e (Array.getElem?_eq_getElem hin) he hbind
      exact ihm e.on O_ ((hun e.on).2 ⟨by omega,hlb⟩)
   obtain ⟨j,hj⟩:=least i0 i0 (Nat.le_refl _) hi0
   rw [hnil] at hj;cases hj
  ·obtain ⟨hun0,o,ho,_⟩:=mem_ready.1 hi
   have hin:i<ops.size:=(Array.getElem?_eq_some_iff.1 ho).1
   refine h.run hl hS hf hi fun ι' a' w' h'=>?_
   have himem:i∈un:=(hun i).2 ⟨hin,getD_both hun0⟩
   refine ih (un.erase i) _ ι' a' w' (by rw [List.length_erase_of_mem himem,hlu];rfl) (hnd.erase i) (fun j=>?_) h'
   rw [hnd.mem_erase_iff,hun j]
   by_cases hji:j=i
   ·subst hji
    have his:j<listed.size:=by rw [h.head.size];exact hin
    simp [his]
   ·rw [getD_set_ne false (fun e=>hji e.symm)]
    simp [hji]
theorem kT {Q : Exit → Act → World → Prop} {id k : Nat} (hm : P.follows .mixedOrders = true) (hl : Jt P ops cs A V (A 0).n) (hall : Region.okChain ops cs (A 0).n = true) {ι : Emb} {w : World} {a : Act} (hf : EZ ι (A 0) a) (hR : R ι (A 0).m w) (hk : k ≤ (A 0).m.length)
    (hQ : ∀ ι' a' w', EZ ι' (A ops.size) a' → a'.defers = a.defers → Step k ι (A 0).m w ι' (A ops.size).m w' → Q .normal a' w') : (Code.region id ops true).wp P Q a w := by
  refine wp_region_any hm ?_
  have hRd : R ι (A 0).m w.drew := ⟨hR.dom, hR.rows, hR.inj, hR.stay⟩
  have hinv : ZB ops cs A k ι w.drew a (Array.replicate ops.size false) ι a w.drew :=
    ⟨⟨0, Nat.zero_le _, fun i _ _ => by rw [getD_replicate_false]; simp, Step.refl hRd hk⟩, .refl _, fun j _ hl => (by rw [getD_replicate_false] at hl; cases hl), fun _ _ => rfl, rfl, rfl,
      ⟨by simp, fun j oj _ hl => (by rw [getD_replicate_false] at hl; cases hl), fun t ht ht' => by omega⟩⟩
  exact ZB.any (w0 := w.drew) (Q' := Q) hl (Region.okChain_spec (by rw [hf.size]; exact hall)) hf
    (fun ι' a' w' h1 h2 h3 => hQ ι' a' w' h1 h2 ⟨h3.r, ⟨h3.trans.os, h3.trans.tape, h3.trans.output, h3.trans.size, h3.trans.keep, h3.trans.fresh⟩, h3.tx, h3.txn, h3.ext, h3.len, h3.ro, h3.old, h3.news⟩) ops.size (List.range ops.size) _ _ _ _ (by simp) List.nodup_range (fun j => by rw [getD_replicate_false]; simp) hinv
end
def EL(S:List Nat)(D:Nat)(m0 m:Az):Prop:=m.length≤m0.length+D∧ ∀b,b<m0.length→S.contains b=false→m[b]?=m0[b]?
def JC(S:List Nat)(D:Nat)(m0:Az):Az:=kill S 0 m0++Ie D
theorem EL.R{S:List Nat}{D:Nat}{m0 m:Az}(h:EL S D m0 m){ι:Emb}{w:World}(hR:R ι m w):R ι (JC S D m0) w:=by
 have get:∀ {b:Nat} {own:Bool} {x:Arr},(JC S D m0)[b]?=some (.row own x)→m[b]?=some (.row own x):=fun {b own x} hb=>by
  unfold JC at hb
  rcases Nat.lt_or_ge b (kill S 0 m0).length with h1 | h1
  ·rw [List.getElem?_append_left h1] at hb
   obtain ⟨h2,h3⟩:=aD S m0 0 b own x hb
   rw [Nat.zero_add] at h2
   rw [h.2 b (by rwa [Nh] at h1) h2];exact h3
  ·rw [List.getElem?_append_right h1] at hb
   unfold Ie at hb
   rw [List.getElem?_replicate] at hb
   split at hb<;>cases hb
 exact ⟨fun b hb=>hR.dom b (by
   have h1:=h.1
   simp only [JC,Ie,List.length_append,Nh,List.length_replicate] at hb
   omega),fun b l own x hb hm=>hR.rows b l own x hb (get hm),fun b b' l l' own own' x x' hne hb hb' hm hm' ho=>hR.inj b b' l l' own own' x x' hne hb hb' (get hm) (get hm') ho,fun c Φ hc=>⟨(hR.stay c Φ (hc.to _)).1,fun b l x hb hm=>(hR.stay c Φ (hc.to _)).2 b l x hb (get hm)⟩⟩
theorem VZ{P:Program}{S:List Nat}{D:Nat}{m0 m:Az}(h:EL S D m0 m){o:Oper}{e:Operand→AV}{v:AV}(hv:AS P e (JC S D m0) o.op=some v):Su P o e m v:=fun ι w ρ hR hρ=>by
 obtain ⟨u,hu,hrel⟩:=TF hv (h.R hR) hρ
 exact .inl ⟨u,w,ι,.inl hu,hrel,Step.refl hR (Nat.le_refl _)⟩
theorem tA{P:Program}{S:List Nat}{D:Nat}{m0 m:Az}(h:EL S D m0 m){o:Oper}{e:Operand→AV}{v:AV}(hv:Ev P (.op o.op e (Bv (JC S D m0))) (.val v (Bv (JC S D m0))))(hn:∀ρ,v.ren ρ=v):Su P o e m v:=fun ι w ρ hR hρ=>by
 have hRk:R ι (Bv (JC S D m0)) w:=AJC (h.R hR)
 have unown:∀c,Dv ι (Bv (JC S D m0)) c→False:=by
  rintro c ⟨b,l,x,_,h2,_⟩
  obtain ⟨h3,_⟩:=G7 h2
  cases h3
 have lift:∀ {u:Value} {w':World} {ι1:Emb},v.rel ι1 u→Step (Bv (JC S D m0)).length ι (Bv (JC S D m0)) w ι1 (Bv (JC S D m0)) w'→ ∃ι2,v.rel ι2 u∧Step m.length ι m w ι2 m w':=by
  intro u w' ι1 hu hst
  obtain ⟨ι2,hsame,hst2⟩:=Ut (N:=[]) unown rfl hR (by rw [List.append_nil];exact hst)
  refine ⟨ι2,?_,?_⟩
  ·have:=AV.ren_rel hsame hu
   rwa [hn] at this
  ·rw [List.map_nil,List.append_nil] at hst2
   exact hst2
 rcases sound hv o ι w ρ rfl hRk hρ with ⟨u,w',ι1,hr,hu,hst⟩ | ⟨f,args,hr,hc⟩
 ·obtain ⟨ι2,h1,h2⟩:=lift hu hst
  exact .inl ⟨u,w',ι2,hr,h1,h2⟩
 ·refine .inr ⟨f,args,hr,hc.mono fun e' w' ⟨u,ι1,he,hu,hst⟩=>?_⟩
  obtain ⟨ι2,h1,h2⟩:=lift hu hst
  exact ⟨u,ι2,he,h1,h2⟩
def El(cs:List (Nat×List Nat))(c:Nat):List Nat:=(cs.filter fun p=>decide (p.1<c)).flatMap (·.2)
def Ss(ops:Array Oper)(cs:List (Nat×List Nat))(i:Nat):List Nat:=(cs.filter fun p=> !XY ops p.1 i).flatMap (·.2)
theorem EL.sub{S S':List Nat}{D:Nat}{m0 m:Az}(h:EL S D m0 m)(hs:∀x∈S,x∈S'):EL S' D m0 m:=
 ⟨h.1,fun b hb hn=>h.2 b hb (by
  cases hc:S.contains b with
  |false=>rfl
  |true=>
   have:=hs b (by simpa using hc)
   rw [show S'.contains b=true by simpa using this] at hn
   cases hn)⟩
def YW (P : Program) (ops : Array Oper) (S : List Nat) (D : Nat) (M0 : Az) (cs : List (Nat × List Nat)) (K : St → Prop) : Nat → List Oper → St → Prop
  | _, [], s => K s
  | i, o :: l, s => ((cs.map (·.1)).contains i = true ∧ ∃ v m', Ev P (.op o.op (AF s.t) s.m) (.val v m') ∧ EL (El cs (i + 1)) D M0 m' ∧ YW P ops S D M0 cs K (i + 1) l ⟨s.n, DX s.t o.dst v, m'⟩) ∨
      ((cs.map (·.1)).contains i = false ∧ ∃ v, (∀ m, (EL S D M0 m ∧ EL (Ss ops cs i) D M0 m) → Su P o (AF s.t) m v) ∧ YW P ops S D M0 cs K (i + 1) l ⟨s.n, DX s.t o.dst v, s.m⟩)
structure YO(P:Program)(ops:Array Oper)(S:List Nat)(D:Nat)(M0:Az)(cs:List (Nat×List Nat))(i:Nat)(l:List Oper)(s:St)(K:St→Prop):Prop where
 h:YW P ops S D M0 cs K i l s
theorem IC(cs:List (Nat×List Nat)){c c':Nat}(h:c≤c'):∀x∈El cs c,x∈El cs c':=by
 intro x hx
 simp only [El,List.mem_flatMap,List.mem_filter,decide_eq_true_eq] at hx ⊢
 obtain ⟨p,⟨h1,h2⟩,h3⟩:=hx
 exact ⟨p,⟨h1,by omega⟩,h3⟩
theorem YW.line{P:Program}{ops:Array Oper}{S:List Nat}{D:Nat}{M0:Az}{cs:List (Nat×List Nat)}{K:St→Prop}{N0:Nat}:∀ {l:List Oper} {i:Nat} {s:St},YW P ops S D M0 cs K i l s→s.n=N0→EL (El cs i) D M0 s.m→ ∃(A:Nat→St) (V:Nat→AV),A 0=s∧(∀c,c≤l.length→EL (El cs (i+c)) D M0 (A c).m)∧
  (∀j o,l[j]?=some o→(cs.map (·.1)).contains (i+j)=false→(∀m,(EL S D M0 m∧EL (Ss ops cs (i+j)) D M0 m)→Su P o (AF (A j).t) m (V j))∧A (j+1)=⟨N0,DX (A j).t o.dst (V j),(A j).m⟩)∧
  (∀j o,l[j]?=some o→(cs.map (·.1)).contains (i+j)=true→ ∃m',Ev P (.op o.op (AF (A j).t) (A j).m) (.val (V j) m')∧A (j+1)=⟨N0,DX (A j).t o.dst (V j),m'⟩)∧K (A l.length)
 |[],i,s,h,_,ha=>⟨fun _=>s,fun _=> .c .any,rfl,fun c hc=>ha.sub (IC cs O_),fun j o h=>by simp at h,fun j o h=>by simp at h,h⟩
 |o::l,i,s,h,hn,ha=>by
  rcases h with ⟨hs,v,m',hv,hag,hr⟩ | ⟨hs,v,hv,hr⟩
  ·obtain ⟨A,V,h0,hc,h1,h2,h3⟩:=YW.line (s:=⟨s.n,DX s.t o.dst v,m'⟩) hr hn hag
   refine ⟨fun i=>match i with | 0=>s | i+1=>A i,fun i=>match i with | 0=>v | i+1=>V i,rfl,fun c hcl=>?_,fun j o' h hs'=>?_,fun j o' h hs'=>?_,h3⟩
   ·cases c with
    |zero=>exact ha
    |succ c=>have:=hc c (by simpa using hcl);rwa [show i+1+c=i+(c+1) by omega] at this
   ·cases j with
    |zero=>rw [Nat.add_zero,hs] at hs';cases hs'
    |succ j=>rw [show i+(j+1)=i+1+j by omega] at hs' ⊢;exact h1 j o' (by simpa using h) hs'
   ·cases j with
    |zero=>simp at h;subst h;exact ⟨m',hv,by simp only;rw [h0,hn]⟩
    |succ j=>rw [show i+(j+1)=i+1+j by omega] at hs';exact h2 j o' (by simpa using h) hs'
  ·obtain ⟨A,V,h0,hc,h1,h2,h3⟩:=YW.line (s:=⟨s.n,DX s.t o.dst v,s.m⟩) hr hn (ha.sub (IC cs O_))
   refine ⟨fun i=>match i with | 0=>s | i+1=>A i,fun i=>match i with | 0=>v | i+1=>V i,rfl,fun c hcl=>?_,fun j o' h hs'=>?_,fun j o' h hs'=>?_,h3⟩
   ·cases c with
    |zero=>exact ha
    |succ c=>have:=hc c (by simpa using hcl);rwa [show i+1+c=i+(c+1) by omega] at this
   ·cases j with
    |zero=>simp at h;subst h;exact ⟨hv,by simp only;rw [h0,hn]⟩
    |succ j=>rw [show i+(j+1)=i+1+j by omega] at hs' ⊢;exact h1 j o' (by simpa using h) hs'
   ·cases j with
    |zero=>rw [Nat.add_zero,hs] at hs';cases hs'
    |succ j=>rw [show i+(j+1)=i+1+j by omega] at hs';exact h2 j o' (by simpa using h) hs'
theorem rO{P:Program}{k id:Nat}{l:List Oper}{s:St}{Φ:Ex→St→Prop}(cs:List (Nat×List Nat))(S:List Nat)(D:Nat)(hm:P.follows .mixedOrders=true)(hok:Region.okChain l.toArray (cs.map (·.1)) s.n=true)(hS:(cs.flatMap (·.2)).all (S.contains ·)=true)(h:YO P l.toArray S D s.m cs 0 l s (Φ .normal)):WC P k (.region id l.toArray true) s Φ:=by
 obtain ⟨A,V,h0,hc,h1,h2,h3⟩:=YW.line (N0:=s.n) h.h rfl ⟨Nat.le_add_right _ _,fun _ _ _=>rfl⟩
 subst h0
 refine ⟨⟨.normal,A l.length,Ev.snd ?_,h3⟩⟩
 intro ι w a hk hR hf Q hQ
 have hl:Jt P l.toArray (cs.map (·.1)) A V (A 0).n:=by
  refine ⟨rfl,fun i o ho hs=>?_,fun i o ho hs=>?_⟩
  ·obtain ⟨g1,g2⟩:=h1 i o (by simpa using ho) (by rw [Nat.zero_add];exact hs)
   refine ⟨fun c hcl hfree=>g1 _ ?_,g2⟩
   have hag:=hc c (by simpa using hcl)
   rw [Nat.zero_add] at hag ⊢
   refine ⟨hag.sub fun x hx=>?_,hag.sub fun x hx=>?_⟩
   ·simp only [El,List.mem_flatMap,List.mem_filter] at hx
    obtain ⟨p,⟨q1,_⟩,q2⟩:=hx
    have:=List.all_eq_true.1 hS x (List.mem_flatMap.2 ⟨p,q1,q2⟩)
    simpa using this
   ·simp only [El,Ss,List.mem_flatMap,List.mem_filter,decide_eq_true_eq] at hx ⊢
    obtain ⟨p,⟨q1,q3⟩,q2⟩:=hx
    refine ⟨p,⟨q1,?_⟩,q2⟩
    rw [hfree p.1 q3 (by simp only [List.contains_iff_mem];exact List.mem_map.2 ⟨p,q1,rfl⟩)]
    rfl
  ·obtain ⟨m',g1,g2⟩:=h2 i o (by simpa using ho) (by rw [Nat.zero_add];exact hs)
   exact ⟨m',sound g1,g2⟩
 exact kT (Q:=Q) hm hl hok hf hR hk fun ι' a' w' g1 g2 g3=>hQ ι' a' w' (by simpa using g1) g2 (by simpa using g3)
section
variable {P:Program} {ops:Array Oper} {S:List Nat} {D:Nat} {M0 M M':Az} {cs:List (Nat×List Nat)} {i N d:Nat} {l:List Oper} {T:Nat→AV} {K:St→Prop} {op:Op} {v:AV} {ty:TypeId} {pos:String} {af:Array Edge}
theorem ADq{s:St}(h:K s):YO P ops S D M0 cs i [] s K:=⟨h⟩
theorem Le(h:AS P (AF T) (JC S D M0) op=some v)(hs:(cs.map (·.1)).contains i=false)(hk:YO P ops S D M0 cs (i+1) l ⟨N,upd T d v,M⟩ K):YO P ops S D M0 cs i (⟨some d,op,ty,pos,af,none⟩::l) ⟨N,T,M⟩ K:=
 ⟨.inr ⟨hs,v,fun _ ha=>VZ ha.1 h,hk.h⟩⟩
theorem ACw(S':List Nat)(hS:(Ss ops cs i).all (S'.contains ·)=true)(h:AS P (AF T) (JC S' D M0) op=some v)(hs:(cs.map (·.1)).contains i=false)(hk:YO P ops S D M0 cs (i+1) l ⟨N,upd T d v,M⟩ K):YO P ops S D M0 cs i (⟨some d,op,ty,pos,af,none⟩::l) ⟨N,T,M⟩ K:=
 ⟨.inr ⟨hs,v,fun _ ha=>VZ (ha.2.sub fun x hx=>by have:=List.all_eq_true.1 hS x hx;simpa using this) h,hk.h⟩⟩
theorem Uk(h:Ev P (.op op (AF T) (Bv (JC S D M0))) (.val v (Bv (JC S D M0))))(hn:∀ρ,v.ren ρ=v)(hs:(cs.map (·.1)).contains i=false)(hk:YO P ops S D M0 cs (i+1) l ⟨N,upd T d v,M⟩ K):YO P ops S D M0 cs i (⟨some d,op,ty,pos,af,none⟩::l) ⟨N,T,M⟩ K:=
 ⟨.inr ⟨hs,v,fun _ ha=>tA ha.1 h hn,hk.h⟩⟩
def VL(S:List Nat):Nat→Az→List Nat
 |_,[]=>[]
 |i,_::m=>if S.contains i then VL S (i+1) m else i::VL S (i+1) m
theorem dJ(S:List Nat):∀(m:Az) (i b:Nat),b<m.length→S.contains (i+b)=false→i+b∈VL S i m
 |[],_,b,h,_=>by simp at h
 |_::m,i,0,_,h=>by
  rw [Nat.add_zero] at h
  unfold VL
  rw [if_neg (by rw [h];simp)]
  exact List.mem_cons_self
 |_::m,i,b+1,h,h2=>by
  have:=dJ S m (i+1) b (by simpa using h) (by rw [show i+1+b=i+(b+1) by omega];exact h2)
  rw [show i+1+b=i+(b+1) by omega] at this
  unfold VL
  split
  ·exact this
  ·exact List.mem_cons_of_mem _ this
def Vh(m m0:Az):List Nat→Prop
 |[]=>True
 |b::l=>m[b]?=m0[b]?∧Vh m m0 l
theorem Va{m m0:Az}:∀ {l:List Nat},Vh m m0 l→ ∀b∈l,m[b]?=m0[b]?
 |_::_,h,b,hb=>by
  rcases List.mem_cons.1 hb with rfl | hb
  ·exact h.1
  ·exact Va h.2 b hb
theorem vL(hl:Nat.ble M.length (M0.length+D)=true)(h:Vh M M0 (VL S 0 M0)):EL S D M0 M:=
 ⟨Nat.le_of_ble_eq_true hl,fun b hb hs=>Va h b (by have:=dJ S M0 0 b hb (by rw [Nat.zero_add];exact hs);rwa [Nat.zero_add] at this)⟩
theorem AG_(hl:Nat.ble M.length (M0.length+D)=true:=by rfl)(h:Vh M M0 (VL S 0 M0):=by repeat (first | exact trivial | refine And.intro rfl ?_)):EL S D M0 M:=vL hl h
theorem V4(h:Ev P (.op op (AF T) M) (.val v M'))(hs:(cs.map (·.1)).contains i=true)(hag:EL (El cs (i+1)) D M0 M')(hk:YO P ops S D M0 cs (i+1) l ⟨N,upd T d v,M'⟩ K):YO P ops S D M0 cs i (⟨some d,op,ty,pos,af,none⟩::l) ⟨N,T,M⟩ K:=
 ⟨.inl ⟨hs,v,M',h,hag,hk.h⟩⟩
theorem AA2(h:Ev P (.op op (AF T) M) (.val v M'))(hs:(cs.map (·.1)).contains i=true)(hag:EL (El cs (i+1)) D M0 M')(hk:YO P ops S D M0 cs (i+1) l ⟨N,T,M'⟩ K):YO P ops S D M0 cs i (⟨none,op,ty,pos,af,none⟩::l) ⟨N,T,M⟩ K:=
 ⟨.inl ⟨hs,v,M',h,hag,hk.h⟩⟩
end
section
variable {P:Program} {op:Op} {e:Operand→AV} {m M M':Az} {b n cap:Nat}
theorem ku{m:Az}{r:Row}:(m++[r]).set m.length .dead=m++[.dead]:=by
 rw [List.set_append_right _ _ (Nat.le_refl _)];simp
theorem kX{x:AA 8}(h:Ev P (.op op e m) (.val (.c (.sl b 0 n cap 1)) (m++[.row true (.a8 x)])))(hb:m.length=b)(hn:x.length=n)(hr:kF m.length m=true):Ev P (.op op e m) (.val (.c (.bs x)) m):=by
 subst hb
 have h2:=ACr h (M2:=m++[.dead]) (by simp) hn ku
 exact zK h2 hr rfl
theorem wo{x:List Int}(h:Ev P (.op op e m) (.val (.c (.sl b 0 n cap 1)) (m++[.row true (.ai x)])))(hb:m.length=b)(hn:x.length=n)(hr:kF m.length m=true):Ev P (.op op e m) (.val (.c (.is x)) m):=by
 subst hb
 have h2:=ACa h (M2:=m++[.dead]) (by simp) hn ku
 exact zK h2 hr rfl
theorem AGg(h:Ev P (.op op e m) (.val (.c .nsl) M)):Ev P (.op op e m) (.val (.c (.bs [])) M):=
 Ev.opPost h fun ι _w _u hk hR hv=>⟨ι,⟨none,0,hv,Nat.le_refl _,.inl rfl⟩,Step.refl hR hk⟩
end
section
variable {P:Program} {k N:Nat} {ops:Array Oper} {d:Nat} {ty:TypeId} {pos:String} {af:Array Edge} {l0:List Oper} {T:Nat→AV} {M M':Az} {K:St→Prop} {t t' el:TypeId} {x s a v:Operand}
theorem AGy{y u:AA 8}{by' n m b0 len cap:Nat}{e2:TypeId}(hs:AF T s= .c (.sl b0 0 len cap 1))(hms:M[b0]?=some (.row true (.a8 u)))(hx:AF T x= .c (.bs y))(hu:P.underlying t=some (.slice el))(hu2:P.underlying t'=some (.slice e2))(he:CH P el=some (1,by'))
  (hlu:u.length=len) (hl:y.length=n) (hb:(len+n)*by'≤140737488355328∧len+n≤9223372036854775807∧n*by'≤140737488355328) (hn:M.length=m) (hM:M.set b0 .dead++[.row true (.a8 (u++y))]=M'):
  Ev P (.op (.call { callee:= .builtin .append,args:= #[s,x],argTypes:= #[t,t'] }) (AF T) M) (.val (.c (.sl m 0 (len+n) (len+n) 1)) M'):=
 Ev.mem (by
  show B3 P M t t' (AF T s) (AF T x)=_
  subst hn;subst hM;subst hl
  rw [hs,hx]
  have hz2:Arr.size (.a8 u)=len:=hlu
  have hn9:y.length≤9223372036854775807:=by omega
  simp [B3,hu,HE,hu2,he,G5,hms,hz2,H2,Arr.one,Arr.app,hb.1,hb.2.1,hb.2.2,hn9])
theorem ABv{kk nn:Int}{aa:List Int}{u:List Nd}{by' m b0 len cap b c:Nat}{own:Bool}{e2:TypeId}(hs:AF T s= .c (.sl b0 0 len cap 3))(hms:M[b0]?=some (.row true (.an u)))(hx:AF T x= .c (.sl b 0 1 c 3))(hm:M[b]?=some (.row own (.ac [.val (.int .i64 kk),.val (.int .i64 nn),.is aa])))(hu:P.underlying t=some (.slice el))(hu2:P.underlying t'=some (.slice e2))(he:CH P el=some (3,by'))
  (hlu:u.length=len) (hb:(len+1)*by'≤140737488355328∧len+1≤9223372036854775807∧by'≤140737488355328) (hn:M.length=m) (hM:M.set b0 .dead++[.row true (.an (u++[⟨kk,nn,aa⟩]))]=M'):
  Ev P (.op (.call { callee:= .builtin .append,args:= #[s,x],argTypes:= #[t,t'] }) (AF T) M) (.val (.c (.sl m 0 (len+1) (len+1) 3)) M'):=
 Ev.mem (by
  show B3 P M t t' (AF T s) (AF T x)=_
  subst hn;subst hM;subst hlu
  rw [hs,hx]
  have hz:Arr.size (.ac [.val (.int .i64 kk),.val (.int .i64 nn),.is aa])=3:=rfl
  have hz2:Arr.size (.an u)=u.length*3:=by show 3*u.length=_;omega
  simp [B3,hu,HE,hu2,he,G5,hm,hms,hz,hz2,H2,Arr.one,Cell.one,Value.oneCell',Arr.app,hb.1,hb.2.1,hb.2.2])
theorem lT{b o:Nat}{y:List Bool}{q:Bool}(ha:AF T a= .c (.ptr b o))(hv:AF T v= .c (.val (.bool q)))(hm:M[b]?=some (.row true (.bl y)))(hs:EM P t=some 1)(ho:o<y.length)(hM:M.set b (.row true (.bl (y.set o q)))=M')
  (hk:WO P k ops l0 ⟨N,T,M'⟩ K):WO P k ops (⟨none,.store t a v,ty,pos,af,none⟩::l0) ⟨N,T,M⟩ K:=
 Zo ha hv hm rfl hs ho rfl hM hk
theorem ACM{l c:Operand}{by' n m:Nat}{ka kb:IntKind}(hu:P.underlying t=some (.slice el))(hx:AF T l= .c (.val (.int ka (n:Int))))(hy:AF T c= .c (.val (.int kb (n:Int))))(he:CH P el=some (1,by'))(hrep:∀n,Lx P el n=some (.ac (List.replicate n (.val (.bool false)))))(h2:n*by'≤281474976710656)(h3:n≤9223372036854775807)(hn:M.length=m):
  Ev P (.op (.makeSlice t l c) (AF T) M) (.val (.c (.sl m 0 n n 1)) (M++[.row true (.bl (List.replicate n false))])):=by
 subst hn
 have h:DK P (AF T) M (.makeSlice t l c)=some (.c (.sl M.length 0 n n 1),M++[.row true (.ac (List.replicate n (.val (.bool false))))]):=by
  show Hm P M t (AF T l) (AF T c)=_
  rw [hx,hy]
  simp only [Hm,hu,HD,he]
  rw [if_pos ⟨by omega,by omega,by rw [←Int.natCast_mul];omega,by omega⟩]
  simp [hrep]
 refine Ev.opPost (Ev.mem h) fun ι w u hk hR hv=>⟨ι,hv,?_⟩
 have:=fM (k:=M.length) (b:=M.length) (y:= .bl (List.replicate n false)) (by simp) hR (show (M++[.row true (.ac (List.replicate n (.val (.bool false))))])[M.length]?=some (.row true (.ac (List.replicate n (.val (.bool false))))) by simp) rfl rfl (by simp [Arr.size]) (fun ι i v hi hr=>by
  have hi':i<n:=by simpa [Arr.size] using hi
  simp only [Arr.get,Wl,List.getD_eq_getElem?_getD,List.getElem?_replicate,hi',if_true,Option.getD_some] at hr
  simp only [Arr.get,T7,List.getD_eq_getElem?_getD,List.getElem?_replicate,hi',if_true,Option.getD_some]
  exact hr) (fun h=>by cases h)
 rw [List.set_append_right _ _ (Nat.le_refl _)] at this
 simpa using this
end
theorem Yo{ρ:Nat→Option Nat}{ι ι':Emb}(h:Same ρ ι ι'):∀ {args:List AV} {vs:List Value},DP ι args vs→DP ι' (args.map (AV.ren ρ)) vs
 |[],[],_=>trivial
 |[],_::_,h=>h.elim
 |_::_,[],h=>h.elim
 |_a::_l,_v::_vs,hr=>⟨AV.ren_rel h hr.1,Yo h hr.2⟩
theorem Ev.relink{P:Program}{f:FuncId}{args args':List AV}{m m' mc' m2:Az}{v v2:AV}(bs:List Nat)(hok:YQ 0 m bs=true)(ha:args.map (AV.ren (I1 0 bs))=args')(hm:FS 0 m bs=m')(h:Ev P (.call f args' m') (.val v mc'))(hv:(H0 bs m v mc').1=v2)(hm2:(H0 bs m v mc').2=m2):
  Ev P (.call f args m) (.val v2 m2):=by
 subst ha hm hv hm2
 refine Ev.semF fun ι w vs hR hargs=>?_
 have hst:=NI hok hR
 have hlen:(FS 0 m bs).length=bs.length:=by simp [FS]
 refine (sound h (GV 0 bs ι) w vs hst.r (Yo (PV 0 bs ι) hargs)).mono fun e' w' hq=>?_
 obtain ⟨u,ι',rfl,hv,hs⟩:=hq
 rw [hlen] at hs
 obtain ⟨h1,h2⟩:=ak hok hR hs hv
 exact ⟨u,_,rfl,h1,h2⟩
inductive wi:List AV→List AV→Prop
 |nil:wi [] []
 |same {x:AV} {l l':List AV} (h:wi l l'):wi (x::l) (x::l')
 |nilZ {l l':List AV} (h:wi l l'):wi (.c .nsl::l) (.c (.is [])::l')
 |nilB {l l':List AV} (h:wi l l'):wi (.c .nsl::l) (.c (.bs [])::l')
 |lb {y:AA 8} {l l':List AV} (h:wi l l'):wi (.c (.lb y)::l) (.c (.bs y)::l')
theorem wi.rel{ι:Emb}{l l':List AV}(h:wi l l'):∀ {vs:List Value},DP ι l vs→DP ι l' vs:=by
 induction h with
 |nil=>intro vs h;exact h
 |same _ ih=>intro vs h;cases vs with
  |nil=>exact h
  |cons v vs=>exact ⟨h.1,ih h.2⟩
 |nilZ _ ih=>intro vs h;cases vs with
  |nil=>exact h
  |cons v vs=>exact ⟨⟨none,0,h.1,Nat.le_refl _,.inl rfl⟩,ih h.2⟩
 |nilB _ ih=>intro vs h;cases vs with
  |nil=>exact h
  |cons v vs=>exact ⟨⟨none,0,h.1,Nat.le_refl _,.inl rfl⟩,ih h.2⟩
 |lb _ ih=>intro vs h;cases vs with
  |nil=>exact h
  |cons v vs=>exact ⟨h.1.1,ih h.2⟩
theorem Ev.weakA{P:Program}{f:FuncId}{args args':List AV}{m m':Az}{v:AV}(ha:wi args args')(h:Ev P (.call f args' m) (.val v m')):Ev P (.call f args m) (.val v m'):=
 Ev.semF fun ι w vs hR hargs=>sound h ι w vs hR (ha.rel hargs)
theorem tj{ι:Emb}{m:Az}{w:World}(hR:R ι m w){a:List Int}{v:Value}(hv:Cell.rel ι (.is a) v):
  ∃ι1:Emb,R ι1 (m++[.row false (.ai a)]) w∧ι1.tx=ι.tx∧ι.le ι1∧(∀b,b<m.length→ι1 b=ι b)∧Cell.rel ι1 (.sl m.length 0 a.length a.length 1) v:=by
 obtain ⟨p,cap,rfl,h1,h2⟩:=hv
 rcases h2 with h2 | ⟨c,o,rfl,⟨o',v',hb⟩,hr⟩
 ·refine ⟨ι,(Vw hR _ (Nat.le_refl _)).r,rfl,.refl _,fun _ _=>rfl,⟨p,cap,rfl,h1,h1,.inl h2⟩⟩
 ·obtain ⟨⟨cs,t,fr,e1,_⟩,_⟩:=hR.txt _ _ _ hb
  have hle:=hR.upd_le ⟨c,o,cap⟩
  refine ⟨ι.upd m.length ⟨c,o,cap⟩,⟨fun b hb=>?_,fun b l own x hl hm=>?_,fun b b' l l' own own' x x' hne hl hl' hm hm' ho=>?_,fun c1 Φ hc=>⟨(hR.stay c1 Φ (hc.to ι)).1,fun b l x hl hm=>?_⟩⟩,rfl,hle,fun b hb=>Emb.upd_ne O_,⟨_,cap,rfl,h1,h1,.inr ⟨_,Emb.upd_eq _ _ _,rfl,by simp⟩⟩⟩
  ·simp at hb
   rw [Emb.upd_ne O_];exact hR.dom b O_
  ·rcases Dg hm with ⟨hlt,hm⟩ | ⟨rfl,e⟩
   ·rw [Emb.upd_ne O_] at hl
    exact (hR.rows b l own x hl hm).mono hle
   ·cases e
    rw [Emb.upd_eq] at hl
    cases hl
    refine .of rfl ⟨cs,t,fr,e1,h1,fun j hj=>?_,fun h=>by cases h⟩
    obtain ⟨⟨cs',t',fr',f1,f2⟩,_⟩:=hR.txt _ _ _ (hr j hj)
    rw [e1] at f1;cases f1
    exact ⟨_,f2,rfl⟩
  ·have far:∀ {b:Nat} {l:Loc} {x:Arr},ι b=some l→m[b]?=some (.row true x)→l.c≠c:=fun h1 h2=>(hR.txt _ _ _ hb).2 _ _ _ h1 h2
   rcases Dg hm with ⟨hlt,hm⟩ | ⟨rfl,e⟩<;>rcases Dg hm' with ⟨hlt',hm'⟩ | ⟨rfl,e'⟩
   ·rw [Emb.upd_ne O_] at hl hl'
    exact hR.inj b b' l l' own own' x x' hne hl hl' hm hm' ho
   ·cases e'
    rw [Emb.upd_ne O_] at hl
    rw [Emb.upd_eq] at hl'
    cases hl'
    rcases ho with rfl | h
    ·exact far hl hm
    ·cases h
   ·cases e
    rw [Emb.upd_ne O_] at hl'
    rw [Emb.upd_eq] at hl
    cases hl
    rcases ho with h | rfl
    ·cases h
    ·exact fun e=>far hl' hm' e.symm
   ·exact absurd rfl hne
  ·rcases Dg hm with ⟨hlt,hm⟩ | ⟨rfl,e⟩
   ·rw [Emb.upd_ne O_] at hl
    exact (hR.stay c1 Φ (hc.to ι)).2 b l x hl hm
   ·cases e
theorem Ev.isRow{P:Program}{f:FuncId}{args args':List AV}{m M' M2:Az}{v v2:AV}{a:List Int}(i:Nat)(ids:List Nat)(hi:args[i]?=some (.c (.is a)))(hi':args'[i]?=some (.c (.sl m.length 0 a.length a.length 1)))(hl:args'.length=args.length)(ho:∀j,j≠i→args'[j]?=args[j]?)
  (h:Ev P (.call f args' (m++[.row false (.ai a)])) (.val v M')) (hok:YQ m.length M' ids=true) (hids:(ids.all fun x=>decide (m.length<x))=true) (hv:v.ren (I1 m.length ids)=v2) (hM:FS m.length M' ids=M2):Ev P (.call f args m) (.val v2 M2):=by
 subst hv hM
 refine Ev.semF fun ι w vs hR hargs=>?_
 have argI:∀ {l:List AV} {vs:List Value} {ι:Emb} {j:Nat} {x:AV},DP ι l vs→l[j]?=some x→ ∃u,vs[j]?=some u∧x.rel ι u:=by
  intro l
  induction l with
  |nil=>intro vs ι j x _ h;simp at h
  |cons y l ih=>intro vs ι j x hr h;cases vs with
   |nil=>exact hr.elim
   |cons u vs=>cases j with
    |zero=>simp at h;subst h;exact ⟨u,rfl,hr.1⟩
    |succ j=>obtain ⟨u',h1,h2⟩:=ih hr.2 (by simpa using h);exact ⟨u',by simpa using h1,h2⟩
 have argOf:∀ {l:List AV} {vs:List Value} {ι:Emb},l.length=vs.length→(∀(j:Nat) (x:AV) (u:Value),l[j]?=some x→vs[j]?=some u→x.rel ι u)→DP ι l vs:=by
  intro l
  induction l with
  |nil=>intro vs ι h _;cases vs with
   |nil=>trivial
   |cons=>simp at h
  |cons y l ih=>intro vs ι h hr;cases vs with
   |nil=>simp at h
   |cons u vs=>exact ⟨hr 0 y u rfl rfl,ih (by simpa using h) fun j x u hx hu=>hr (j+1) x u (by simpa using hx) (by simpa using hu)⟩
 have hvl:args.length=vs.toList.length:=by
  have:∀ {l:List AV} {vs:List Value} {ι:Emb},DP ι l vs→l.length=vs.length:=by
   intro l
   induction l with
   |nil=>intro vs ι h;cases vs with
    |nil=>rfl
    |cons=>exact h.elim
   |cons y l ih=>intro vs ι h;cases vs with
    |nil=>exact h.elim
    |cons u vs=>simp [ih h.2]
  exact this hargs
 obtain ⟨u0,hu0,hr0⟩:=argI hargs hi
 obtain ⟨ι1,hR1,htx,hle,hlo,hcell⟩:=tj hR (v:=u0) hr0
 have hargs1:DP ι1 args' vs.toList:=argOf (by rw [hl];exact hvl) fun j x u hx hu=>by
  by_cases hji:j=i
  ·subst hji
   rw [hi'] at hx
   rw [hu0] at hu
   cases hx;cases hu
   exact hcell
  ·rw [ho j hji] at hx
   obtain ⟨u',h1,h2⟩:=argI hargs hx
   rw [h1] at hu
   cases hu
   exact AV.rel_mono hle h2
 refine (sound h ι1 w vs hR1 hargs1).mono fun e' w' hq=>?_
 obtain ⟨u,ι',rfl,hu,hs⟩:=hq
 have hl1:(m++[Row.row false (.ai a)]).length=m.length+1:=by simp
 rw [hl1] at hs
 have hs2:=NI hok hs.r
 have hc:=(hs.low (Nat.le_succ _)).comp hs2
 have row1:∀ {b:Nat} {x:Arr},(m++[Row.row false (.ai a)])[b]?=some (.row true x)→b<m.length∧m[b]?=some (.row true x):=fun {b x} hb=>by
  rcases Dg hb with h1 | ⟨_,e⟩
  ·exact h1
  ·cases e
 have own1:∀ {c},Dv ι1 (m++[Row.row false (.ai a)]) c→Dv ι m c:=fun {c} ⟨b,l,x,h1,h2,h3⟩=>by
  obtain ⟨h4,h5⟩:=row1 h2
  exact ⟨b,l,x,by rw [←hlo b h4];exact h1,h5,h3⟩
 refine ⟨u,GV m.length ids ι',rfl,AV.ren_rel (PV _ _ _) hu,⟨hc.r,⟨hc.trans.os,hc.trans.tape,hc.trans.output,hc.trans.size,fun c hcl hn=>hc.trans.keep c hcl fun h=>hn (own1 h),fun c h=>(hc.trans.fresh c h).imp id own1⟩,fun c o v h=>hc.tx c o v (by rw [htx];exact h),fun c o v h=>?_,fun b hb=>(hc.ext b hb).trans (hlo b hb),hc.len,fun b x hb hm=>hc.ro b x hb (by rw [List.getElem?_append_left hb];exact hm),fun b own x hb hm=>?_,fun b l own x hb h1 h2=>?_⟩⟩
 ·rcases hc.txn c o v h with h | h | h
  ·exact .inl (by rw [←htx];exact h)
  ·exact .inr (.inl h)
  ·exact .inr (.inr (own1 h))
 ·obtain ⟨x0,h0⟩:=hc.old b own x hb hm
  rw [List.getElem?_append_left hb] at h0
  exact ⟨x0,h0⟩
 ·have hk:m.length≤M'.length:=Nat.le_trans (Nat.le_succ _) hs.len
  obtain ⟨b',y,hy,rfl,hbb⟩:=Gm hk h2
  rcases hbb with ⟨h3,_⟩ | ⟨_,hidb⟩
  ·omega
  ·have hgt:m.length<b':=by have:=List.all_eq_true.1 hids b' (List.mem_of_getElem? hidb);simpa using this
   have hemb:GV m.length ids ι' b=ι' b':=by unfold GV;dsimp only;rw [if_neg O_,hidb]
   rw [hemb] at h1
   rcases hs.news b' l own y O_ h1 hy with h4 | h4 | ⟨b0,l0,o0,x0,h5,_,h6,_⟩
   ·exact .inl h4
   ·exact .inr (.inl (own1 h4))
   ·exact (Kd (by simp;omega) h6).elim
def mv(l:List UInt8):Nat:=l.foldl (fun v d=>v*10+(d.toNat-48)) 0
theorem oG(l:List UInt8)(d:UInt8):mv (l++[d])=mv l*10+(d.toNat-48):=by simp [mv]
theorem Tn{i:Nat}(h:i<10):(UInt8.ofNat (48+i)).toNat=48+i:=by
 simp only [UInt8.toNat_ofNat']
 omega
theorem fA(u:Nat):mv (Lib.decDigits u)=u:=by
 induction u using Nat.strongRecOn with
 |ind u ih=>
  by_cases h:u<10
  ·rw [Lib.decDigits_one h]
   simp only [mv,List.foldl_cons,List.foldl_nil,Tn h]
   omega
  ·rw [Lib.decDigits,dif_neg h,oG,ih (u/10) O_,Tn O_]
   omega
theorem TU(u:Nat):∀d∈Lib.decDigits u,48≤d.toNat∧d.toNat≤57:=by
 induction u using Nat.strongRecOn with
 |ind u ih=>
  intro d hd
  by_cases h:u<10
  ·rw [Lib.decDigits_one h,List.mem_singleton] at hd
   subst hd
   rw [Tn h];omega
  ·rw [Lib.decDigits,dif_neg h,List.mem_append,List.mem_singleton] at hd
   rcases hd with hd | rfl
   ·exact ih (u/10) O_ d hd
   ·rw [Tn O_];omega
theorem rG{u v:Nat}(h:Lib.decDigits u=Lib.decDigits v):u=v:=by rw [←fA u,h,fA]
theorem bh(x:Int):(32:UInt8) ∉ Lib.itoa x:=by
 intro h
 unfold Lib.itoa at h
 split at h
 ·rcases List.mem_cons.1 h with h | h
  ·exact absurd h D_
  ·have:=TU _ _ h
   revert this;decide
 ·have:=TU _ _ h
  revert this;decide
theorem xr{x y:Int}(h:Lib.itoa x=Lib.itoa y):x=y:=by
 unfold Lib.itoa at h
 split at h<;>split at h
 ·have:=rG (List.cons.inj h).2
  omega
 ·rename_i h1 h2
  have:=TU y.toNat 45 (by rw [←h];exact List.mem_cons_self)
  exact absurd this D_
 ·rename_i h1 h2
  have:=TU x.toNat 45 (by rw [h];exact List.mem_cons_self)
  exact absurd this D_
 ·have:=rG h
  omega
theorem lh{l m r s:List UInt8}(hl:(32:UInt8) ∉ l)(hm:(32:UInt8) ∉ m)(h:l++32::r=m++32::s):l=m∧r=s:=by
 induction l generalizing m with
 |nil=>
  cases m with
  |nil=>exact ⟨rfl,(List.cons.inj h).2⟩
  |cons y m=>exact absurd (List.cons.inj h).1 (fun e=>hm (by rw [e];exact List.mem_cons_self))
 |cons x l ih=>
  cases m with
  |nil=>exact absurd (List.cons.inj h).1 (fun e=>hl (by rw [←e];exact List.mem_cons_self))
  |cons y m=>
   obtain ⟨h1,h2⟩:=List.cons.inj h
   obtain ⟨h3,h4⟩:=ih (m:=m) (fun h=>hl (List.mem_cons_of_mem _ h)) (fun h=>hm (List.mem_cons_of_mem _ h)) h2
   exact ⟨by rw [h1,h3],h4⟩
theorem YU:∀ {l m:List Int},Ek l=Ek m→l=m
 |[],[],_=>rfl
 |[],y::m,h=>by simp [Ek] at h
 |x::l,[],h=>by simp [Ek] at h
 |x::l,y::m,h=>by
  obtain ⟨h1,h2⟩:=lh (bh x) (bh y) h
  rw [xr h1,YU h2]
def qS(x:Nd):Value:= .string ⟨(Ek (x.k::x.n::x.a)).toArray⟩
theorem ll{x y:Nd}(h:qS x=qS y):x=y:=by
 unfold qS at h
 have h1:(Ek (x.k::x.n::x.a)).toArray=(Ek (y.k::y.n::y.a)).toArray:=congrArg ByteArray.data (Value.string.inj h)
 have h2:=YU (List.toArray_inj h1)
 cases x;cases y
 simp_all
def IZ(L:List Nd):List (Value×Fy):=(List.range L.length).map fun i=>(qS (DY L i),.val (.int .i64 (i:Int)))
theorem NF{L:List Nd}{x:Nd}{i:Nat}(h:i<L.length):DY (L++[x]) i=DY L i:=by
 unfold DY
 rw [IV,if_pos h]
theorem Pe(L:List Nd)(x:Nd):DY (L++[x]) L.length=x:=by
 unfold DY
 rw [IV,if_neg O_]
 simp
theorem tg(L:List Nd)(x:Nd):IZ (L++[x])=IZ L++[(qS x,.val (.int .i64 (L.length:Int)))]:=by
 unfold IZ
 rw [List.length_append,List.length_singleton,List.range_succ,List.map_append,List.map_singleton,Pe]
 congr 1
 apply List.map_congr_left
 intro i hi
 rw [NF (List.mem_range.1 hi)]
def df(k:Int):Bool:=(decide (k=1) || decide (k=2)) || decide (k=4)
def SD(k:Int):Nat:=if k=4∨k=5∨k=6∨k=8 then 1 else if k=7 then 2 else 0
def cZ(k:Int):Nat:=if k=1∨k=2 then 0 else if k=4∨k=5 then 1 else 400
def hasB(m:Nat)(a:List Int):Bool:=a.all fun i=>decide (0≤i)&&decide (i<(m:Int))
def UM(m:Nat)(k n:Int)(a:List Int):Nat:=
 if k<1∨9<k then 6 else if n<0∨(0<n∧df k=false) then 1 else if a.length<SD k∨cZ k<a.length then 2 else if hasB m a=false then 8 else 0
def AC8(x y:Nd):Bool:=((x.k==y.k)&&(x.n==y.n))&&decide (x.a=y.a)
theorem xT{x y:Nd}:AC8 x y=true↔x=y:=by
 cases x;cases y
 simp [AC8,and_assoc]
def YH(L:List Nd)(x:Nd):Option Nat:=L.findIdx? (AC8 · x)
def mk(L:List Nd)(k n:Int)(a:List Int):List Nd×Nat×Nat:=
 if UM L.length k n a≠0 then (L,0,UM L.length k n a)
 else match YH L ⟨k,n,a⟩ with
  |some i=>(L,i,0)
  |none=>if 1048576≤L.length then (L,0,7) else (L++[⟨k,n,a⟩],L.length,0)
structure Oq(L:List Nd):Prop where
 dist:∀i j,i<L.length→j<L.length→DY L i=DY L j→i=j
 ok:∀i,i<L.length→UM i (DY L i).k (DY L i).n (DY L i).a=0
 small:∀i,i<L.length→(DY L i).n≤9223372036854775807
theorem Oq.nil:Oq []:=⟨fun i j h=>by simp at h,fun i h=>by simp at h,fun i h=>by simp at h⟩
theorem U1{L:List Nd}{x:Nd}(h:YH L x=none){i:Nat}(hi:i<L.length):DY L i≠x:=by
 unfold YH at h
 rw [List.findIdx?_eq_none_iff] at h
 intro e
 have:=h (DY L i) (by
  unfold DY
  rw [List.getD_eq_getElem?_getD,List.getElem?_eq_getElem hi]
  exact List.getElem_mem hi)
 rw [e,show AC8 x x=true from xT.2 rfl] at this
 cases this
theorem Oq.snoc{L:List Nd}(h:Oq L){k n:Int}{a:List Int}(he:UM L.length k n a=0)(hn:n≤9223372036854775807)(hf:YH L ⟨k,n,a⟩=none):Oq (L++[⟨k,n,a⟩]):=by
 have last:∀i,i<(L++[(⟨k,n,a⟩:Nd)]).length→i=L.length∨i<L.length:=fun i hi=>by simp at hi;omega
 refine ⟨fun i j hi hj e=>?_,fun i hi=>?_,fun i hi=>?_⟩
 ·rcases last i hi with rfl | hi<;>rcases last j hj with rfl | hj
  ·rfl
  ·rw [Pe,NF hj] at e;exact absurd e.symm (U1 hf hj)
  ·rw [Pe,NF hi] at e;exact absurd e (U1 hf hi)
  ·rw [NF hi,NF hj] at e;exact h.dist i j hi hj e
 ·rcases last i hi with rfl | hi
  ·rw [Pe];exact he
  ·rw [NF hi];exact h.ok i hi
 ·rcases last i hi with rfl | hi
  ·rw [Pe];exact hn
  ·rw [NF hi];exact h.small i hi
theorem Oq.keyed{L:List Nd}(h:Oq L):Keyed .string (IZ L):=by
 refine ⟨fun p hp=>?_,?_⟩
 ·obtain ⟨i,_,rfl⟩:=List.mem_map.1 hp
  exact trivial
 ·unfold IZ
  rw [List.pairwise_map]
  refine List.Pairwise.imp_of_mem ?_ List.pairwise_lt_range
  intro i j hi hj hlt e
  have:=h.dist i j (List.mem_range.1 hi) (List.mem_range.1 hj) (ll e)
  omega
theorem eV{L:List Nd}{x:Nd}(hf:YH L x=none):∀p∈IZ L,p.1≠qS x:=by
 intro p hp e
 obtain ⟨i,hi,rfl⟩:=List.mem_map.1 hp
 exact U1 hf (List.mem_range.1 hi) (ll e)
structure AFT(i:Nat)(x:Nd):Prop where
 kind:1≤x.k∧x.k≤9
 num:0≤x.n∧(0<x.n→df x.k=true)
 len:SD x.k≤x.a.length∧x.a.length≤cZ x.k
 args:∀y∈x.a,0≤y∧y<(i:Int)
theorem mR{m:Nat}{k n:Int}{a:List Int}(h:UM m k n a=0):AFT m ⟨k,n,a⟩:=by
 unfold UM at h
 split at h
 ·cases h
 ·split at h
  ·cases h
  ·split at h
   ·cases h
   ·split at h
    ·cases h
    ·rename_i h1 h2 h3 h4
     simp only [not_or,not_and,Int.not_lt,Bool.not_eq_false] at h1 h2 h4
     rw [not_or] at h3
     refine ⟨⟨h1.1,h1.2⟩,⟨h2.1,fun hp=>h2.2 hp⟩,⟨Nat.le_of_not_lt h3.1,Nat.le_of_not_lt h3.2⟩,fun y hy=>?_⟩
     unfold hasB at h4
     simp only [List.all_eq_true,Bool.and_eq_true,decide_eq_true_eq] at h4
     exact h4 y hy
theorem Oq.nd{L:List Nd}(h:Oq L){i:Nat}(hi:i<L.length):AFT i (DY L i):=mR (h.ok i hi)
theorem ci(k:Int):cZ k≤400:=by
 unfold cZ
 split
 ·omega
 ·split<;>omega
theorem AAT(w:World)(o:Obj)(h:o= .cells #[] 3):(w.alloc o).ownsRow w.heap.size 3 1 (.slice (some ⟨w.heap.size,0,none⟩) 0 0) 0 []:=by
 subst h
 exact ⟨rfl,.inr ⟨w.heap.size,0,#[],rfl,Nat.le_refl _,heap_alloc_new w _,Nat.le_refl _,by unfold maxLen;omega,rfl,rfl⟩⟩
theorem ue(l:List Int)(v:Value)(w:World)(hv:(v= .slice none 0 0∧l=[])∨ ∃ad cap,v= .slice (some ad) l.length cap∧ ∀j u,(l.map (Value.int .i64))[j]?=some u→w.cell? (ad.add j)=some u)(hlen:l.length≤1000):
  Calls prog 43 #[v] w fun e w'=> ∃v',e= .returned v'∧w'.ownsRow w.heap.size 3 1 v' l.length (l.map (Value.int .i64))∧Below w.heap.size w w':=by
 have Hlen:=hid hlen
 clear hlen
 have q41:∀(w:World) (a:Option Addr) (n c n' c':Nat),(binOp .eql 41 (.slice a n c) (.slice none n' c')).run prog w= .ok (.bool a.isNone) w:=fun w a n c n' c'=>Lib.run_eql_slice_nil w _ _ a n c n' c' underlying41
 rcases hv with ⟨rfl,rfl⟩ | ⟨ad,cap,rfl,hc⟩
 ·go_enter func43,ntmps43
  go_wp2
  go_ret
  exact ⟨_,rfl,World.ownsRow_nil _ _ _ _,Below.refl _ _⟩
 ·have Hv:=hid hc
  clear hc
  go_enter func43,ntmps43
  go_wp2_with (at_builtin;refine Rv _ rfl (.tmp 5) (.tmp 6) 41 rfl w.heap.size underlying41 tL (.slice (some ⟨w.heap.size,0,none⟩) 0 0) 0 [] l rfl (AAT w _ rfl) _ rfl ?_ (by have:=Hlen.out;omega) (by simp) ?_)
  ·exact .inr ⟨ad,cap,rfl,fun j u hj=>by have h3:=Hv.out j u hj;exact (World.cell?_of_block (w:=w) (by rw [IS,if_neg (by have:=World.block_lt_of_cell? w _ h3;omega)])).trans h3⟩
  intro v1 w1 hown1 hgrow1
  have hB1:Below w.heap.size w w1:=((Below.refl _ _).alloc (Nat.le_refl _) _).grown hgrow1 (by simp) (fun k hk=>by simp [Value.ownBlock] at hk;omega)
  have HO:=hid hown1
  have HB:=hid hB1
  clear hown1 hgrow1 hB1
  go_wp2
  go_ret
  exact ⟨_,rfl,HO.out,HB.out⟩
theorem bJ{ι:Emb}{M:Az}{w w':World}(hR:R ι M w)(hb:Below w.heap.size w w'):Step M.length ι M w ι M w':=
 Step.make hR hR.dom (fun b l own x h1 h2=>(hR.rows b l own x h1 h2).heap (hb.block _ (hR.lt h1 h2)) (.refl _)) hR.inj ⟨hb.os,hb.tape,hb.output,hb.size,fun c hc _=>hb.block c hc,fun _ h=> .inr h⟩ rfl (fun _ _=>rfl) (Nat.le_refl _) (fun _ _ _ h=>h) (fun _ _ x _ h=>⟨x,h⟩) (fun _b _l _own _x hb _h1 h2=>(Kd hb h2).elim)
theorem ww{ι:Emb}{M:Az}{w w':World}(hR:R ι M w)(hb:Below w.heap.size w w'){v:Value}{l:List Int}(ho:w'.ownsRow w.heap.size 3 1 v l.length (l.map (Value.int .i64))):∃ι',Cell.rel ι' (.is l) v∧Step M.length ι M w ι' M w':=by
 have hst:=bJ hR hb
 rcases ho.2 with ⟨rfl,h0⟩ | ⟨g,cap,cur,rfl,hg,hh,hc,hm,hs,ht⟩
 ·exact ⟨ι,⟨none,0,by rw [h0],by omega,.inl rfl⟩,hst⟩
 ·have hle:ι.le ⟨ι.f,fun c o u=>ι.tx c o u∨(c=g∧cur[o]?=some u)⟩:=⟨fun _ _ h=>h,fun _ _ _ h=> .inl h⟩
  refine ⟨⟨ι.f,fun c o u=>ι.tx c o u∨(c=g∧cur[o]?=some u)⟩,?_,⟨⟨hst.r.dom,fun b l own x h1 h2=>(hst.r.rows b l own x h1 h2).mono hle,hst.r.inj,fun c Φ hc=>?_⟩,⟨hst.trans.os,hst.trans.tape,hst.trans.output,hst.trans.size,hst.trans.keep,hst.trans.fresh⟩,fun _ _ _ h=> .inl h,fun c o u hc=>?_,fun _ _=>rfl,Nat.le_refl _,fun _ _ _ h=>h,fun _ _ x _ h=>⟨x,h⟩,fun b l own x hb h1 h2=>(Kd hb h2).elim⟩⟩
  ·refine ⟨some ⟨g,0,none⟩,cap,rfl,hc,?_⟩
   have cell:∀i,i<l.length→cur[i]?=some (.int .i64 (l.getD i 0)):=fun i hi=>by
    have h1:(cur.toList.take (l.length*1))[i]?=(l.map (Value.int .i64))[i]?:=by rw [ht]
    rw [List.getElem?_take,if_pos O_,List.getElem?_map,List.getElem?_eq_getElem hi,Option.map_some,Array.getElem?_toList] at h1
    rw [h1,List.getD_eq_getElem?_getD,List.getElem?_eq_getElem hi]
    rfl
   by_cases h0:cap=0
   ·exact .inl h0
   ·have hcur:0<cur.size:=by omega
    refine .inr ⟨g,0,rfl,⟨0,cur[0],.inr ⟨rfl,by simp [hcur]⟩⟩,fun i hi=> .inr ⟨rfl,?_⟩⟩
    rw [Nat.zero_add];exact cell i hi
  ·cases hc with
   |base kb=>exact hst.r.stay c Φ (.base kb)
   |tx hc=>
    rcases hc with hc | ⟨rfl,h2⟩
    ·exact hst.r.stay c _ (.tx hc)
    ·exact ⟨⟨_,hh,cur,3,(0,0),rfl,h2⟩,fun b l x h1 h3 e=>by have:=hR.lt h1 h3;omega⟩
  ·rcases hc with hc | ⟨rfl,_⟩
   ·exact .inl hc
   ·exact .inr (.inl hg)
theorem nE{ι:Emb}{M:Az}{w:World}(hR:R ι M w){b n cap:Nat}{own:Bool}{l:List Int}(hm:M[b]?=some (.row own (.ai l)))(hl:l.length=n){v:Value}(hv:Cell.rel ι (.sl b 0 n cap 1) v):
  (v= .slice none 0 0∧l=[])∨ ∃ad cap,v= .slice (some ad) l.length cap∧ ∀j u,(l.map (Value.int .i64))[j]?=some u→w.cell? (ad.add j)=some u:=by
 obtain ⟨p,cap',rfl,_,h2,h3⟩:=hv
 subst hl
 rcases h3 with rfl | ⟨lc,hlc,rfl,_⟩
 ·have:l.length=0:=by omega
  obtain rfl:l=[]:=List.eq_nil_of_length_eq_zero this
  cases p with
  |none=>exact .inl ⟨rfl,rfl⟩
  |some ad=>exact .inr ⟨ad,0,rfl,fun j u h=>by simp at h⟩
 ·refine .inr ⟨_,cap',rfl,fun j u hj=>?_⟩
  obtain ⟨cs,t,fr,k1,k2,k3,k4⟩:=hR.cells hlc hm rfl
  have hj':j<l.length:=by have:=(List.getElem?_eq_some_iff.1 hj).1;simpa using this
  obtain ⟨u',e1,e2⟩:=k3 j hj'
  obtain rfl:u'= .int .i64 (DU l j):=e2
  rw [HX,cell_of k1,Nat.add_zero,e1]
  rw [List.getElem?_map,List.getElem?_eq_getElem hj'] at hj
  cases hj
  simp [DU,hj']
theorem AAJ{ι:Emb}{M:Az}{w:World}(hR:R ι M w):Lib.TabIs prog w "internal/strconv.uint64pow10" .u64 Lib.pow10Tab:=
 AHE K_ (hR.stay 0 ou (.base rfl)).1
theorem AGq(k n:Int)(a:List Int)(m cap:Nat)(hm:a.length=m)(hlen:m≤1000)(hr:∀x∈k::n::a,-9223372036854775808≤x∧x≤9223372036854775807):
  Ev prog (.call 42 [.c (.val (.int .i64 k)),.c (.val (.int .i64 n)),.c (.sl 0 0 m cap 1)] [.row false (.ai a)]) (.val (.c (.val (qS ⟨k,n,a⟩))) [.row false (.ai a)]):=
 Ev.semF fun ι w vs hR hargs=>by
  match hvs:vs.toList,hargs with
  |[v1,v2,v3],hargs=>
   obtain ⟨h1,h2,h3,_⟩:=hargs
   obtain rfl:v1= .int .i64 k:=h1
   obtain rfl:v2= .int .i64 n:=h2
   have hv:vs= #[.int .i64 k,.int .i64 n,v3]:=by rw [←Array.toList_inj,hvs]
   subst hv
   refine (ADJ k n a v3 w (nE hR (b:=0) rfl hm h3) O_ hr (AAJ hR)).mono fun e w' ⟨he,hb⟩=>?_
   exact ⟨_,ι,he,rfl,bJ hR hb⟩
theorem wx(a:List Int)(m cap:Nat)(hm:a.length=m)(hlen:m≤1000):Ev prog (.call 43 [.c (.sl 0 0 m cap 1)] [.row false (.ai a)]) (.val (.c (.is a)) [.row false (.ai a)]):=
 Ev.semF fun ι w vs hR hargs=>by
  match hvs:vs.toList,hargs with
  |[v3],hargs=>
   obtain ⟨h3,_⟩:=hargs
   have hv:vs= #[v3]:=by rw [←Array.toList_inj,hvs]
   subst hv
   refine (ue a v3 w (nE hR (b:=0) rfl hm h3) O_).mono fun e w' ⟨v',he,ho,hb⟩=>?_
   obtain ⟨ι',h1,h2⟩:=ww hR hb ho
   exact ⟨v',ι',he,h1,h2⟩
theorem bnA{p:Prop} [Decidable p] (h:p):((!decide p)==false)=true:=by simp [h]
theorem bnB{p:Prop} [Decidable p] (h:¬p):((!decide p)==true)=true:=by simp [h]
theorem bnC{p:Prop} [Decidable p] (h:p):((!decide p)==true)=false:=by simp [h]
theorem bnD{p:Prop} [Decidable p] (h:¬p):((!decide p)==false)=false:=by simp [h]
theorem FR{p:Prop}(h:p:=by first | rfl | exact Jb rfl rfl rfl rfl | exact Jb rfl rfl rfl (AJy O_) | exact Jb rfl rfl rfl (AJh O_) | exact Jb rfl rfl rfl (AES O_) | exact Jb rfl rfl rfl (AEd O_) | exact mV rfl rfl rfl | exact Jb rfl rfl rfl D_ | exact Jb rfl rfl rfl (bnA O_) | exact Jb rfl rfl rfl (bnB O_) | exact Jb rfl rfl rfl (bnC O_) | exact Jb rfl rfl rfl (bnD O_) | fail):p:=h
theorem ZU(b o:Nat):Br prog 75 (.c (.ptr b o)) 0=some (.c (.ptr b (o+0))):=by kernel_rfl
theorem sY(b o:Nat):Br prog 75 (.c (.ptr b o)) 1=some (.c (.ptr b (o+1))):=by kernel_rfl
abbrev As(f:Nat):Prop:=(prog.funcs[f]?).any (fun fn=>fn.body.isSome&& !(fn.name== "runtime.NumGoroutine"))=true
theorem Au{f:Nat}{x:Func}(h:prog.funcs[f]?=some x)(k:(x.body.isSome&& !(x.name== "runtime.NumGoroutine"))=true:=by rfl):As f:=by unfold As;rw [h];exact k
theorem AJ4:As 43:=Au func43
theorem AKY:As 68:=Au func68
section
variable {P:Program} {T:Nat→AV} {M M':Az} {t t':TypeId} {x y z:Operand} {a b:Int}
theorem AEj(hx:AF T x= .c (.val (.int .i64 a)))(hy:AF T y= .c (.val (.int .i64 b))):AS P (AF T) M (.binOp .eql t x y t')=some (.c (.val (.bool (decide (a=b))))):=AFI hx hy
theorem AGQ(hx:AF T x= .c (.val (.int .i64 a)))(hy:AF T y= .c (.val (.int .i64 b))):AS P (AF T) M (.binOp .neq t x y t')=some (.c (.val (.bool (!decide (a=b))))):=AF4 hx hy
theorem AK3{op:Op}{e:Operand→AV}{m:Az}{v:AV}(h:Ev P (.op op e m) (.val v (m++[]))):Ev P (.op op e m) (.val v m):=by rwa [List.append_nil] at h
theorem ABw{b o:Nat}{c:Cell}{u w:Arr}(ha:AF T x= .c (.ptr b o))(hv:AF T y= .c c)(hm:M[b]?=some (.row true u))(h1:c.one=true)(hs:EM P t=some 1)(ho:o<u.size)(hz:u.set o c=some w)(hM:M.set b (.row true w)=M'):
  Ev P (.op (.store t x y) (AF T) M) (.val (.c .any) M'):=
 Ev.mem (by simp [DK,LH,ha,hv,hm,h1,hs,ho,hz,hM])
end
section
variable {P:Program} {T:Nat→AV} {M:Az} {x y z:Operand}
theorem qd{t:TypeId}{ps:Array (Nat×Operand)}{l:List (Nat×AV)}{v:AV}(hl:ps.toList.map (fun p=>(p.1,AF T p.2))=l)(h:CJ P t l=some v):AS P (AF T) M (.build t ps)=some v:=by subst hl;exact h
theorem AII{t:TypeId}{n:Nat}{ps:Array (Nat×Operand)}{l:List (Nat×AV)}{r:AV×Az}(hl:ps.toList.map (fun p=>(p.1,AF T p.2))=l)(h:Dj P M t n l=some r):DK P (AF T) M (.buildSlice t n ps)=some r:=by subst hl;exact h
end
section
variable {T:Nat→AV} {M:Az} {x y z:Operand}
theorem AIH(k n:Int)(a:List Int):CJ prog 58 [(0,.c (.val (.int .i64 k))),(1,.c (.val (.int .i64 n))),(2,.c (.is a))]=some (.agg (.ac [.val (.int .i64 k),.val (.int .i64 n),.is a])):=by kernel_rfl
theorem AK4(M:Az)(k n:Int)(a:List Int):Dj prog M 53 1 [(0,.agg (.ac [.val (.int .i64 k),.val (.int .i64 n),.is a]))]=some (.c (.sl M.length 0 1 1 3),M++[.row true (.ac [.val (.int .i64 k),.val (.int .i64 n),.is a])]):=by kernel_rfl
theorem AJG(b:Nat):CJ prog 75 [(1,.c (.mp b))]=some (.agg (.ac [.nsl,.mp b])):=by kernel_rfl
theorem ABm{k n:Int}{a:List Int}(hx:AF T x= .c (.val (.int .i64 k)))(hy:AF T y= .c (.val (.int .i64 n)))(hz:AF T z= .c (.is a)):
  AS prog (AF T) M (.build 58 #[(0,x),(1,y),(2,z)])=some (.agg (.ac [.val (.int .i64 k),.val (.int .i64 n),.is a])):=
 qd (by simp [hx,hy,hz]) (AIH k n a)
theorem AFF{k n:Int}{a:List Int}{m:Nat}(hx:AF T x= .agg (.ac [.val (.int .i64 k),.val (.int .i64 n),.is a]))(hm:M.length=m):
  DK prog (AF T) M (.buildSlice 53 1 #[(0,x)])=some (.c (.sl m 0 1 1 3),M++[.row true (.ac [.val (.int .i64 k),.val (.int .i64 n),.is a])]):=by
 subst hm
 exact AII (by simp [hx]) (AK4 M k n a)
theorem ACT{b:Nat}(hx:AF T x= .c (.mp b)):AS prog (AF T) M (.build 75 #[(1,x)])=some (.agg (.ac [.nsl,.mp b])):=
 qd (by simp [hx]) (AJG b)
end
theorem AE6{P:Program}{k N:Nat}{c:Code}{T:Nat→AV}{M M':Az}{Φ:Ex→St→Prop}(b i sz:Nat)(x:Arr){l:List Cell}(_hx:x.size=0)(hb:M[b]?=some (.row true (.ac l)))(hi:l[i]?=some .nsl)(hM:M.set b (.row true (.ac (l.set i (.sl M.length 0 0 0 sz))))++[.row true x]=M')(h:WC P k c ⟨N,T,M'⟩ Φ):WC P k c ⟨N,T,M⟩ Φ:=by
 subst hM
 obtain ⟨e,r,h1,h2⟩:=h.h
 refine ⟨⟨e,r,Ev.weak (fun ι w a hk hR hf=>⟨ι,hf.mono (.refl ι) _,?_⟩) h1,h2⟩⟩
 have hst:=fM (k:=k) (y:= .ac (l.set i (.sl M.length 0 0 0 sz))) hk hR hb rfl rfl (by simp [Arr.size]) (fun ι j v hj hv=>by
  simp only [Arr.get,Wl,List.getD_eq_getElem?_getD,List.getElem?_set] at hv ⊢
  by_cases hij:i=j
  ·subst hij
   have hj':i<l.length:=hj
   rw [if_pos rfl,if_pos hj']
   rw [hi] at hv
   obtain rfl:v= .slice none 0 0:=hv
   exact ⟨none,0,rfl,Nat.le_refl _,Nat.le_refl _,.inl rfl⟩
  ·rw [if_neg hij];exact hv) (fun h=>by cases h)
 have hl:(M.set b (.row true (.ac (l.set i (.sl M.length 0 0 0 sz))))).length=M.length:=by simp
 exact hst.comp (ke (by rw [hl];exact hk) hst.r)
theorem E3:BX prog 3=some false:=by kernel_rfl
theorem dT:EM prog 3=some 1:=by kernel_rfl
theorem oV:CH prog 3=some (1,8):=by kernel_rfl
theorem ADk:BX prog 4=some false:=by kernel_rfl
theorem AGK:EM prog 4=some 1:=by kernel_rfl
theorem ALg:CH prog 4=some (1,1):=by kernel_rfl
theorem UR:BX prog 5=some false:=by kernel_rfl
theorem Bt:EM prog 5=some 1:=by kernel_rfl
theorem AEa(n:Nat):Lx prog 5 n=some (.a8 (Ac n)):=by kernel_rfl
theorem KM:CH prog 5=some (1,1):=by kernel_rfl
theorem kC:BX prog 23=some false:=by kernel_rfl
theorem WE:EM prog 23=some 1:=by kernel_rfl
theorem xz(n:Nat):Lx prog 23 n=some (.ac (List.replicate n .nsl)):=by kernel_rfl
theorem AA1:CH prog 23=some (1,24):=by kernel_rfl
theorem QH:BX prog 37=some true:=by kernel_rfl
theorem Pg:EM prog 37=some 32:=by kernel_rfl
theorem YJ(m:Az):C1 prog m 37=some (.c (.ptr m.length 0),m++[.row true (.a8 (Ac 32))]):=by kernel_rfl
theorem AIB:(prog.info? 37).bind (fun i=>i.zero.map (·.cells.size))=some 32:=by kernel_rfl
theorem AEQ:(prog.info? 37).bind (fun i=>i.zero.map (fun z=>CX z.cells.toList))=some (.a8 (Ac 32)):=by kernel_rfl
theorem Xq:BX prog 41=some false:=by kernel_rfl
theorem AG7:BX prog 42=some false:=by kernel_rfl
theorem pY:BX prog 53=some false:=by kernel_rfl
theorem AIi:EM prog 53=some 1:=by kernel_rfl
theorem jN:BX prog 58=some true:=by kernel_rfl
theorem aq:EM prog 58=some 3:=by kernel_rfl
theorem AH7(m:Az):C1 prog m 58=some (.c (.ptr m.length 0),m++[.row true (.ac [.val (.int .i64 0),.val (.int .i64 0),.nsl])]):=by kernel_rfl
theorem ACb(b o:Nat):Br prog 58 (.c (.ptr b o)) 0=some (.c (.ptr b (o+0))):=by kernel_rfl
theorem ic(b o:Nat):Br prog 58 (.c (.ptr b o)) 1=some (.c (.ptr b (o+1))):=by kernel_rfl
theorem TN(b o:Nat):Br prog 58 (.c (.ptr b o)) 2=some (.c (.ptr b (o+2))):=by kernel_rfl
theorem AJL:CH prog 58=some (3,40):=by kernel_rfl
theorem KK:BX prog 70=some false:=by kernel_rfl
theorem Am:EM prog 70=some 1:=by kernel_rfl
theorem AKL:CH prog 70=some (1,8):=by kernel_rfl
theorem xp:BX prog 73=some false:=by kernel_rfl
theorem gT:BX prog 85=some false:=by kernel_rfl
theorem AC7(b o:Nat):Br prog 87 (.c (.ptr b o)) 0=some (.c (.ptr b (o+0))):=by kernel_rfl
theorem Zj(b o:Nat):Br prog 87 (.c (.ptr b o)) 1=some (.c (.ptr b (o+1))):=by kernel_rfl
theorem xF:BX prog 98=some true:=by kernel_rfl
theorem ADU:EM prog 98=some 12:=by kernel_rfl
theorem AIP:(prog.info? 98).bind (fun i=>i.zero.map (fun z=>CX z.cells.toList))=some (.a8 (Ac 12)):=by kernel_rfl
theorem WL:BX prog 105=some true:=by kernel_rfl
theorem XQ:EM prog 105=some 64:=by kernel_rfl
theorem yy(m:Az):C1 prog m 105=some (.c (.ptr m.length 0),m++[.row true (.a8 (Ac 64))]):=by kernel_rfl
theorem Zs:BX prog 106=some false:=by kernel_rfl
theorem Bi:EM prog 106=some 1:=by kernel_rfl
theorem AGz:CH prog 106=some (1,4):=by kernel_rfl
theorem sT:BX prog 107=some true:=by kernel_rfl
theorem qg:EM prog 107=some 8:=by kernel_rfl
theorem ge(m:Az):C1 prog m 107=some (.c (.ptr m.length 0),m++[.row true (.a32 (DF 8))]):=by kernel_rfl
theorem qA:(prog.info? 107).bind (fun i=>i.zero.map (·.cells.size))=some 8:=by kernel_rfl
theorem AC6:BX prog 111=some true:=by kernel_rfl
theorem oh:EM prog 111=some 64:=by kernel_rfl
theorem jb(m:Az):C1 prog m 111=some (.c (.ptr m.length 0),m++[.row true (.a32 (DF 64))]):=by kernel_rfl
theorem AEm:(prog.info? 111).bind (fun i=>i.zero.map (·.cells.size))=some 64:=by kernel_rfl
theorem OA:BX prog 121=some true:=by kernel_rfl
theorem Qs:EM prog 121=some 16:=by kernel_rfl
theorem dQ(m:Az):C1 prog m 121=some (.c (.ptr m.length 0),m++[.row true (.a8 (Ac 16))]):=by kernel_rfl
theorem AGv:EM prog 127=some 4:=by kernel_rfl
theorem xG(m:Az):C1 prog m 127=some (.c (.ptr m.length 0),m++[.row true (.a64 (AC 4))]):=by kernel_rfl
theorem AFb:(prog.info? 127).bind (fun i=>i.zero.map (·.cells.size))=some 4:=by kernel_rfl
theorem Ei:BX prog 128=some true:=by kernel_rfl
theorem EI:EM prog 128=some 4:=by kernel_rfl
theorem IM(m:Az):C1 prog m 128=some (.c (.ptr m.length 0),m++[.row true (.a64 (AC 4))]):=by kernel_rfl
theorem nP:(prog.info? 128).bind (fun i=>i.zero.map (·.cells.size))=some 4:=by kernel_rfl
theorem Hx:(prog.info? 128).bind (fun i=>i.zero.map (fun z=>CX z.cells.toList))=some (.a64 (AC 4)):=by kernel_rfl
theorem ZG:BX prog 136=some true:=by kernel_rfl
theorem ag:EM prog 136=some 16:=by kernel_rfl
theorem AHR(m:Az):C1 prog m 136=some (.c (.ptr m.length 0),m++[.row true (.a64 (AC 16))]):=by kernel_rfl
theorem xD(b o:Nat):Br prog 136 (.c (.ptr b o)) 0=some (.c (.ptr b (o+0))):=by kernel_rfl
theorem zN(b o:Nat):Br prog 136 (.c (.ptr b o)) 1=some (.c (.ptr b (o+4))):=by kernel_rfl
theorem bQ(b o:Nat):Br prog 136 (.c (.ptr b o)) 2=some (.c (.ptr b (o+8))):=by kernel_rfl
theorem mq(b o:Nat):Br prog 136 (.c (.ptr b o)) 3=some (.c (.ptr b (o+12))):=by kernel_rfl
theorem qJ:CJ prog 136 []=some (.agg (.a64 (AC 16))):=WI K_ K_
theorem AA8{a b c d:AA 64}(ha:a.length=4)(hb:b.length=4)(hc:c.length=4)(hd:d.length=4):CJ prog 136 [(0,.agg (.a64 a)),(1,.agg (.a64 b)),(2,.agg (.a64 c)),(3,.agg (.a64 d))]=some (.agg (.a64 (a++b++c++d))):=by
 rw [NY (x:= .a64 (AC 16)) (places:=[(0,4),(4,4),(8,4),(12,4)]) K_ K_]
 rw [show AC 16=AC (4+4+4+4) from rfl,eX (n:=4) rfl rfl rfl rfl ha hb hc hd]
 rfl
theorem so:BX prog 153=some true:=by kernel_rfl
theorem nS:EM prog 153=some 8:=by kernel_rfl
theorem AEu(m:Az):C1 prog m 153=some (.c (.ptr m.length 0),m++[.row true (.a64 (AC 8))]):=by kernel_rfl
theorem qC:(prog.info? 153).bind (fun i=>i.zero.map (·.cells.size))=some 8:=by kernel_rfl
theorem ga:BX prog 155=some true:=by kernel_rfl
theorem gg:EM prog 155=some 4:=by kernel_rfl
theorem AGi(m:Az):C1 prog m 155=some (.c (.ptr m.length 0),m++[.row true (.a64 (AC 4))]):=by kernel_rfl
theorem AHQ:(prog.info? 155).bind (fun i=>i.zero.map (·.cells.size))=some 4:=by kernel_rfl
theorem ABD(m:Az):C1 prog m 159=some (.c (.ptr m.length 0),m++[.row true (.a64 (AC 5))]):=by kernel_rfl
theorem H7:BX prog 160=some true:=by kernel_rfl
theorem HF:EM prog 160=some 5:=by kernel_rfl
theorem TC(m:Az):C1 prog m 160=some (.c (.ptr m.length 0),m++[.row true (.a64 (AC 5))]):=by kernel_rfl
theorem wn:(prog.info? 160).bind (fun i=>i.zero.map (·.cells.size))=some 5:=by kernel_rfl
theorem AFv:(prog.info? 160).bind (fun i=>i.zero.map (fun z=>CX z.cells.toList))=some (.a64 (AC 5)):=by kernel_rfl
theorem Vc:BX prog 162=some true:=by kernel_rfl
theorem W5:EM prog 162=some 20:=by kernel_rfl
theorem AG3(m:Az):C1 prog m 162=some (.c (.ptr m.length 0),m++[.row true (.a64 (AC 20))]):=by kernel_rfl
theorem S3(b o:Nat):Br prog 162 (.c (.ptr b o)) 0=some (.c (.ptr b (o+0))):=by kernel_rfl
theorem Rk(b o:Nat):Br prog 162 (.c (.ptr b o)) 1=some (.c (.ptr b (o+5))):=by kernel_rfl
theorem Vq(b o:Nat):Br prog 162 (.c (.ptr b o)) 2=some (.c (.ptr b (o+10))):=by kernel_rfl
theorem nH(b o:Nat):Br prog 162 (.c (.ptr b o)) 3=some (.c (.ptr b (o+15))):=by kernel_rfl
theorem nv:CJ prog 162 []=some (.agg (.a64 (AC 20))):=WI K_ K_
theorem yh{a b c d:AA 64}(ha:a.length=5)(hb:b.length=5)(hc:c.length=5)(hd:d.length=5):CJ prog 162 [(0,.agg (.a64 a)),(1,.agg (.a64 b)),(2,.agg (.a64 c)),(3,.agg (.a64 d))]=some (.agg (.a64 (a++b++c++d))):=by
 rw [NY (x:= .a64 (AC 20)) (places:=[(0,5),(5,5),(10,5),(15,5)]) K_ K_]
 rw [show AC 20=AC (5+5+5+5) from rfl,eX (n:=5) rfl rfl rfl rfl ha hb hc hd]
 rfl
theorem rj:BX prog 181=some true:=by kernel_rfl
theorem nZ:EM prog 181=some 16:=by kernel_rfl
theorem gO(m:Az):C1 prog m 181=some (.c (.ptr m.length 0),m++[.row true (.a32 (DF 16))]):=by kernel_rfl
theorem AGk:(prog.info? 181).bind (fun i=>i.zero.map (fun z=>CX z.cells.toList))=some (.a32 (DF 16)):=by kernel_rfl
theorem gG:BX prog 185=some true:=by kernel_rfl
theorem jk:EM prog 185=some 64:=by kernel_rfl
theorem AHY(m:Az):C1 prog m 185=some (.c (.ptr m.length 0),m++[.row true (.a32 (DF 64))]):=by kernel_rfl
theorem ABq:BX prog 201=some true:=by kernel_rfl
theorem qU:EM prog 201=some 80:=by kernel_rfl
theorem ib(m:Az):C1 prog m 201=some (.c (.ptr m.length 0),m++[.row true (.a64 (AC 80))]):=by kernel_rfl
theorem AFE:(prog.info? 201).bind (fun i=>i.zero.map (·.cells.size))=some 80:=by kernel_rfl
theorem iI:BX prog 213=some true:=by kernel_rfl
theorem iX:EM prog 213=some 5:=by kernel_rfl
theorem AE3(m:Az):C1 prog m 213=some (.c (.ptr m.length 0),m++[.row true (.a64 (AC 5))]):=by kernel_rfl
theorem AIX:As 11:=Au func11
theorem ADW:As 13:=Au func13
theorem AAs:As 14:=Au func14
theorem AEX:As 15:=Au func15
theorem rz:As 16:=Au func16
theorem ADu:As 17:=Au func17
theorem AIO:As 19:=Au func19
theorem AIR:As 20:=Au func20
theorem AAy:As 21:=Au func21
theorem zk:As 22:=Au func22
theorem zv:As 26:=Au func26
theorem AEU:As 27:=Au func27
theorem AJr:As 28:=Au func28
theorem AId:As 29:=Au func29
theorem AJA:As 30:=Au func30
theorem AIa:As 31:=Au func31
theorem st:As 35:=Au func35
theorem AJn:As 37:=Au func37
theorem Vz:As 38:=Au func38
theorem mQ:As 39:=Au func39
theorem AJt:As 40:=Au func40
theorem ADj:As 41:=Au func41
theorem AI2:As 42:=Au func42
theorem AKD:As 44:=Au func44
theorem AIh:As 45:=Au func45
theorem ADR:As 46:=Au func46
theorem AEH:As 53:=Au func53
theorem AED:As 54:=Au func54
theorem AD4:As 55:=Au func55
theorem AI4:As 56:=Au func56
theorem AJk:As 57:=Au func57
theorem AEO:As 58:=Au func58
theorem xX:As 59:=Au func59
theorem AIT:As 60:=Au func60
theorem ADl:As 61:=Au func61
theorem AD2:As 62:=Au func62
theorem KG:As 63:=Au func63
theorem AJ7:As 64:=Au func64
theorem AEM:As 65:=Au func65
theorem UP:As 66:=Au func66
theorem zg:As 69:=Au func69
theorem AKZ:As 70:=Au func70
theorem AIQ:As 71:=Au func71
theorem AAD:As 75:=Au func75
theorem ADg:As 76:=Au func76
theorem AEA:As 77:=Au func77
theorem AKR:As 78:=Au func78
theorem AEY:As 79:=Au func79
theorem AIu:As 80:=Au func80
theorem AIj:As 81:=Au func81
theorem Sr:As 82:=Au func82
theorem Sj:As 83:=Au func83
theorem Mo:As 84:=Au func84
theorem La:As 85:=Au func85
theorem CA:As 86:=Au func86
theorem sf:As 87:=Au func87
theorem V2:As 88:=Au func88
theorem AIN:As 89:=Au func89
theorem tD:As 90:=Au func90
theorem wq:As 91:=Au func91
theorem xA:As 92:=Au func92
theorem ADT:As 93:=Au func93
theorem AIU:As 94:=Au func94
theorem tR:As 95:=Au func95
theorem YX:As 96:=Au func96
theorem AEI:As 97:=Au func97
theorem AEg:As 98:=Au func98
theorem AIW:As 99:=Au func99
theorem AFa:As 100:=Au func100
theorem pH:As 101:=Au func101
theorem AFl:As 103:=Au func103
theorem AG6:As 105:=Au func105
theorem zj:As 108:=Au func108
theorem AAt:As 109:=Au func109
theorem ABI:As 110:=Au func110
theorem AG9:As 111:=Au func111
theorem aL:As 112:=Au func112
theorem xe:As 113:=Au func113
theorem yu:As 114:=Au func114
theorem AGd:As 115:=Au func115
theorem xc:As 116:=Au func116
theorem Qb:As 117:=Au func117
theorem Ik:As 118:=Au func118
theorem Uh:As 119:=Au func119
theorem aT:As 120:=Au func120
theorem xY:As 121:=Au func121
theorem Zv:As 122:=Au func122
theorem AGF:As 123:=Au func123
theorem oL:As 124:=Au func124
theorem gB:As 125:=Au func125
theorem Ug:As 126:=Au func126
theorem ABE:As 127:=Au func127
theorem pD:As 128:=Au func128
theorem AHN:As 129:=Au func129
theorem AGJ:As 130:=Au func130
theorem AF0:As 131:=Au func131
theorem AGl:As 132:=Au func132
theorem oP:As 133:=Au func133
theorem aE:As 134:=Au func134
theorem Um:As 135:=Au func135
theorem nW:As 136:=Au func136
theorem xI:As 137:=Au func137
theorem AFm:As 138:=Au func138
theorem AFx:As 139:=Au func139
theorem AFq:As 140:=Au func140
theorem oZ:As 141:=Au func141
theorem AGO:As 142:=Au func142
theorem AAn:As 146:=Au func146
theorem AGo:As 147:=Au func147
theorem za:As 148:=Au func148
theorem R3:As 149:=Au func149
theorem xm:As 150:=Au func150
theorem zZ:As 151:=Au func151
theorem AAW:As 152:=Au func152
theorem AGM:As 153:=Au func153
theorem VM:As 154:=Au func154
theorem JW:As 155:=Au func155
theorem Im:As 156:=Au func156
theorem Js:As 157:=Au func157
theorem By:As 158:=Au func158
theorem Xx:As 159:=Au func159
theorem O9:As 160:=Au func160
theorem gR:cN prog 161 sub64Entry:=⟨⟨_,func161,K_,K_,K_,by kernel_rfl⟩⟩
theorem ZR:cN prog 162 add64Entry:=⟨⟨_,func162,K_,K_,K_,by kernel_rfl⟩⟩
theorem np:As 163:=Au func163
theorem jR:As 164:=Au func164
theorem SI:As 165:=Au func165
theorem jG:As 166:=Au func166
theorem nm:As 167:=Au func167
theorem AGS:As 168:=Au func168
theorem oN:As 169:=Au func169
theorem AFR:As 170:=Au func170
theorem NJ:As 171:=Au func171
theorem AEq:As 172:=Au func172
theorem AGn:As 173:=Au func173
theorem VC:As 174:=Au func174
theorem AF9:As 175:=Au func175
theorem AF3:As 176:=Au func176
theorem OZ:As 177:=Au func177
theorem AHX:As 178:=Au func178
theorem xq:As 184:=Au func184
theorem AHP:As 185:=Au func185
theorem AHB:As 186:=Au func186
theorem XT:As 187:=Au func187
theorem oH:As 188:=Au func188
theorem ol:As 189:=Au func189
theorem AHZ:As 190:=Au func190
theorem nY:As 196:=Au func196
theorem aP:As 197:=Au func197
theorem mixed:prog.follows .mixedOrders=true:=by kernel_rfl
abbrev AY(b:Nat):AV:= .c (.ptr b 0)
theorem P3(k:r)(h:Hid r→g:=by intro h;refine S_ ?_;refine A2 ?_;refine AB (A6 rfl) rfl ?_;refine AR ?_;refine S_ ?_;refine A2 ?_;exact h.out):g:=h ⟨k⟩
theorem ABC(k:r)(h:Hid r→g:=by intro h;refine AB (A6 rfl) rfl ?_;refine AR ?_;refine Q_ ?_;exact h.out):g:=h ⟨k⟩
theorem AHb:Ev prog (.call 20 [] []) (.val (AY 0) [.row true (.ac [.sl 1 0 0 0 3,.mp 2]),.row true (.an []),.row true (.mp (IZ []))]):=by
 refine AI func20 rfl ntmps20 rfl AM ?_;refine P3 ?_;refine Hl (eF) rfl ?_;refine AB (ACT rfl) rfl ?_;refine Ap (Sw yp AM) AT rfl ?_;refine ABC ?_;refine AE6 1 0 3 (.an []) rfl rfl rfl rfl ?_;refine S_ ?_;exact kG (Iu rfl) K_
theorem tu{m:Nat}{a:List Int}{j:Nat}(hj:j<a.length):hasB m (a.drop j)=((decide (0≤DU a j)&&decide (DU a j<(m:Int)))&&hasB m (a.drop (j+1))):=by
 unfold hasB
 rw [List.drop_eq_getElem_cons hj,List.all_cons]
 congr 2<;>simp [DU,hj]
abbrev At(i:Int):AV:= .c (.val (.int .i64 i))
theorem Ab(k:r)(h:Hid r→g:=by intro h;refine S_ ?_;refine A2 ?_;exact h.out):g:=h ⟨k⟩
theorem BF(k:r)(h:Hid r→g:=by intro h;refine AB (A6 rfl) rfl ?_;refine AR ?_;refine S_ ?_;refine A2 ?_;refine AB (Ao rfl) rfl ?_;exact h.out):g:=h ⟨k⟩
theorem pT(k:r)(h:Hid r→g:=by intro h;refine AB (Oc rfl underlying41) rfl ?_;exact h.out):g:=h ⟨k⟩
theorem V5(k:r)(h:Hid r→g:=by intro h;refine AB (Ao rfl) rfl ?_;refine AR ?_;refine S_ ?_;exact h.out):g:=h ⟨k⟩
theorem U7(k:r)(h:Hid r→g:=by intro h;refine S_ ?_;refine A2 ?_;refine AB (A8 rfl rfl) rfl ?_;refine AR ?_;refine S_ ?_;refine A2 ?_;exact h.out):g:=h ⟨k⟩
theorem ACI(k:r)(h:Hid r→g:=by intro h;refine AB (F1 rfl rfl underlying41 dT O_) rfl ?_;exact h.out):g:=h ⟨k⟩
theorem BZ(k:r)(h:Hid r→g:=by intro h;refine AB (A6 rfl) rfl ?_;refine AR ?_;exact h.out):g:=h ⟨k⟩
theorem A1(k:r)(h:Hid r→g:=by intro h;refine S_ ?_;refine A2 ?_;refine AB (Ao rfl) rfl ?_;exact h.out):g:=h ⟨k⟩
theorem Yt(k:r)(h:Hid r→g:=by intro h;refine AB (AFp rfl rfl) rfl ?_;exact h.out):g:=h ⟨k⟩
theorem AX(k:r)(h:Hid r→g:=by intro h;refine AB (Ao rfl) rfl ?_;exact h.out):g:=h ⟨k⟩
theorem SN(k:r)(h:Hid r→g:=by intro h;refine bB FR rfl ?_;refine bB FR rfl ?_;exact h.out):g:=h ⟨k⟩
theorem HZ(k:r)(h:Hid r→g:=by intro h;refine AB (WV rfl PK_ rfl) rfl ?_;exact h.out):g:=h ⟨k⟩
theorem B0(k:r)(h:Hid r→g:=by intro h;refine AR ?_;refine S_ ?_;refine A2 ?_;refine AB (A6 rfl) rfl ?_;refine AR ?_;refine S_ ?_;exact h.out):g:=h ⟨k⟩
theorem CF(h:g:=by exact kG (Iu rfl) (by (kernel_rfl))):g:=h
theorem E9(k:r)(h:Hid r→g:=by intro h;refine AB (Ao rfl) rfl ?_;refine Ee FR ?_;refine AB (Ao rfl) rfl ?_;refine Ee FR ?_;exact h.out):g:=h ⟨k⟩
theorem YN(k:r)(h:Hid r→g:=by intro h;refine AB (Ao rfl) rfl ?_;refine Ee FR ?_;exact h.out):g:=h ⟨k⟩
theorem UO(k:r)(h:Hid r→g:=by intro h;refine AB (RG rfl) rfl ?_;exact h.out):g:=h ⟨k⟩
theorem eQ(k:r)(h:Hid r→g:=by intro h;refine AB (A7 rfl (ZU _ _)) rfl ?_;exact h.out):g:=h ⟨k⟩
theorem fJ(k:r)(h:Hid r→g:=by intro h;refine AB (DR rfl rfl pY EO rfl) rfl ?_;exact h.out):g:=h ⟨k⟩
theorem sn(k:r)(h:Hid r→g:=by intro h;refine AB (Oc rfl underlying53) rfl ?_;exact h.out):g:=h ⟨k⟩
theorem Dm(k:r)(h:Hid r→g:=by intro h;refine AB (gm rfl PK_ rfl) rfl ?_;exact h.out):g:=h ⟨k⟩
theorem RT(k:r)(h:Hid r→g:=by intro h;refine A2 ?_;refine AB (Ao rfl) rfl ?_;exact h.out):g:=h ⟨k⟩
theorem Cj(k:r)(h:Hid r→g:=by intro h;refine AR ?_;refine S_ ?_;refine A2 ?_;refine AB (B8 (b:=1) rfl rfl O_) rfl ?_;refine AB (Ao rfl) rfl ?_;refine AR ?_;exact h.out):g:=h ⟨k⟩
theorem Vx(k:r)(h:Hid r→g:=by intro h;refine S_ ?_;refine A2 ?_;refine AB (A8 rfl rfl) rfl ?_;exact h.out):g:=h ⟨k⟩
theorem yL(L:List Nd)(es:List (Value×Fy))(N:Nat)(a:List Int)(m cap:Nat)(_hN:L.length=N)(_hNl:N≤2000000)(hm:a.length=m)(hml:m≤1000000):
  Ev prog (.call 41 [.c (.ptr 0 0),.c (.sl 1 0 m cap 1)] [.row false (.ac [.sl 2 0 N N 3,.mp 3]),.row false (.ai a),.row false (.an L),.row false (.mp es)])
   (.val (.c (.val (.bool (hasB N a)))) [.row false (.ac [.sl 2 0 N N 3,.mp 3]),.row false (.ai a),.row false (.an L),.row false (.mp es)]):=by
 refine AI func41 rfl ntmps41 rfl AM ?_;refine Ab ?_;refine BF ?_;refine pT ?_;refine V5 ?_;refine Q2 [0,7,8,9] (fun (j:Nat)=>⟨25,AU [0,7,8,9] [AY 0,.c (.sl 1 0 m cap 1),At (m:Int),At (j:Int)],[.row false (.ac [.sl 2 0 N N 3,.mp 3]),.row false (.ai a),.row false (.an L),.row false (.mp es)]⟩) (fun j=>m-j) (fun j=>j≤m∧hasB N a=hasB N (a.drop j)) 0 K_ ⟨Nat.zero_le _,by rw [List.drop_zero]⟩ ?_
 rintro j ⟨hj,hB⟩
 by_cases hlt:j<m
 ·rw [tu O_] at hB
  refine U7 ?_;refine ACI ?_;refine AB (Th rfl rfl E3 EO) rfl ?_;refine BZ ?_;generalize DU a j=x at*
  by_cases h1:x<0
  ·rw [show hasB N a=false by rw [hB];simp;omega]
   refine A1 ?_;refine Yt ?_;refine AX ?_;refine SN ?_;refine SN ?_;refine SN ?_;refine bB FR rfl ?_;refine HZ ?_;refine B0 ?_;exact CF
  ·by_cases h2:(N:Int)≤x
   ·rw [show hasB N a=false by rw [hB];simp;omega]
    refine A1 ?_;refine Yt ?_;refine E9 ?_;refine YN ?_;refine UO ?_;refine Ee FR ?_;refine eQ ?_;refine Ee FR ?_;refine fJ ?_;refine Ee FR ?_;refine sn ?_;refine Ee FR ?_;refine AB (oA rfl rfl) rfl ?_;refine Dm ?_;refine B0 ?_;exact CF
   ·refine S_ ?_
    refine RT ?_;refine Yt ?_;refine E9 ?_;refine YN ?_;refine UO ?_;refine Ee FR ?_;refine eQ ?_;refine Ee FR ?_;refine fJ ?_;refine Ee FR ?_;refine sn ?_;refine Ee FR ?_;refine AB (oA rfl rfl) rfl ?_;refine Dm ?_;refine Cj ?_;refine ⟨j+1,K_,by show m-(j+1)<m-j;omega,by omega,?_⟩
    rw [hB,show (decide (0≤x)&&decide (x<(N:Int)))=true by simp;omega,Bool.true_and]
 ·obtain rfl:j=m:=by omega
  rw [show hasB N a=true by rw [hB,←hm,List.drop_length];rfl]
  refine Vx ?_;refine B0 ?_;exact CF
theorem Yh(k:r)(h:Hid r→g:=by intro h;refine AI func40 rfl ntmps40 rfl AM ?_;exact h.out):g:=h ⟨k⟩
theorem Jh(k:r)(h:Hid r→g:=by intro h;refine S_ ?_;refine A2 ?_;refine AB (A6 rfl) rfl ?_;refine AB (A6 rfl) rfl ?_;refine AR ?_;refine S_ ?_;refine A2 ?_;refine AB (Ao rfl) rfl ?_;exact h.out):g:=h ⟨k⟩
theorem Ra(k:r)(h:Hid r→g:=by intro h;refine AR ?_;refine S_ ?_;refine A2 ?_;refine AB (DC (b:=1) rfl rfl) rfl ?_;exact h.out):g:=h ⟨k⟩
theorem Ai(k:r)(h:Hid r→g:=by intro h;refine AB (A6 rfl) rfl ?_;refine AR ?_;refine S_ ?_;refine A2 ?_;exact h.out):g:=h ⟨k⟩
theorem He(h:g:=by refine AB (A6 rfl) rfl ?_;refine AB (A6 rfl) rfl ?_;refine AR ?_;refine S_ ?_;exact k_2 (Iu rfl) (Iu rfl) (by (kernel_rfl))):g:=h
theorem UY(k:r)(h:Hid r→g:=by intro h;refine AB (DC (b:=2) rfl rfl) rfl ?_;exact h.out):g:=h ⟨k⟩
theorem dO(k:r)(h:Hid r→g:=by intro h;refine AB (DC (b:=4) rfl rfl) rfl ?_;exact h.out):g:=h ⟨k⟩
theorem kS(k:r)(h:Hid r→g:=by intro h;refine AB (DC (b:=5) rfl rfl) rfl ?_;exact h.out):g:=h ⟨k⟩
theorem AZ(k:r)(h:Hid r→g:=by intro h;refine AR ?_;refine S_ ?_;refine A2 ?_;exact h.out):g:=h ⟨k⟩
theorem KO(k:r)(h:Hid r→g:=by intro h;refine AB (AEj rfl rfl) rfl ?_;exact h.out):g:=h ⟨k⟩
theorem ACN(k:Int):Ev prog (.call 40 [At k] []) (.val (.tup [At ((SD k:Nat):Int),At ((cZ k:Nat):Int)]) []):=by
 unfold SD cZ
 by_cases h1:k=1
 ·simp only [h1,if_true,if_false,Int.reduceEq,or_self,or_false]
  refine Yh ?_;refine Jh ?_;refine Ra ?_;refine Ai ?_;exact He
 by_cases h2:k=2
 ·simp only [h2,or_true,if_true,if_false,Int.reduceEq,or_self]
  refine Yh ?_;refine Jh ?_;refine Ra ?_;refine Ai ?_;refine UY ?_;refine Ai ?_;exact He
 by_cases h4:k=4
 ·simp only [h4,if_true,if_false,Int.reduceEq,or_self,or_false]
  refine Yh ?_;refine Jh ?_;refine Ra ?_;refine Ai ?_;refine UY ?_;refine Ai ?_;refine dO ?_;refine Ai ?_;exact He
 by_cases h5:k=5
 ·simp only [h5,or_true,if_true,if_false,Int.reduceEq,or_self,or_false]
  refine Yh ?_;refine Jh ?_;refine Ra ?_;refine Ai ?_;refine UY ?_;refine Ai ?_;refine dO ?_;refine Ai ?_;refine kS ?_;refine Ai ?_;exact He
 by_cases h6:k=6
 ·simp only [h6,or_true,if_true,if_false,Int.reduceEq,or_self,or_false]
  refine Yh ?_;refine Jh ?_;refine Ra ?_;refine Ai ?_;refine UY ?_;refine Ai ?_;refine dO ?_;refine Ai ?_;refine kS ?_;refine Ai ?_;refine AB (DC (b:=6) rfl rfl) rfl ?_;refine Ai ?_;exact He
 by_cases h8:k=8
 ·simp only [h8,or_true,if_true,if_false,Int.reduceEq,or_self]
  refine Yh ?_;refine Jh ?_;refine Ra ?_;refine Ai ?_;refine UY ?_;refine Ai ?_;refine dO ?_;refine Ai ?_;refine kS ?_;refine Ai ?_;refine AB (DC (b:=6) rfl rfl) rfl ?_;refine Ai ?_;refine AB (DC (b:=8) rfl rfl) rfl ?_;refine Ai ?_;exact He
 by_cases h7:k=7
 ·simp only [h7,if_true,if_false,Int.reduceEq,or_self]
  refine Yh ?_;refine Jh ?_;refine Ra ?_;refine Ai ?_;refine UY ?_;refine Ai ?_;refine dO ?_;refine Ai ?_;refine kS ?_;refine Ai ?_;refine AB (DC (b:=6) rfl rfl) rfl ?_;refine Ai ?_;refine AB (DC (b:=8) rfl rfl) rfl ?_;refine Ai ?_;refine AB (DC (b:=7) rfl rfl) rfl ?_;refine Ai ?_;exact He
 simp only [h1,h2,h4,h5,h6,h8,h7,or_self,if_false]
 refine Yh ?_;refine Jh ?_;refine AZ ?_;refine KO ?_;refine Ai ?_;refine KO ?_;refine Ai ?_;refine KO ?_;refine Ai ?_;refine KO ?_;refine Ai ?_;refine KO ?_;refine Ai ?_;refine KO ?_;refine Ai ?_;refine KO ?_;refine Ai ?_;exact He
theorem zU{P:Program}{k:Nat}{c:Code}{s:St}{Φ:Ex→St→Prop}(keep:List Nat){σ:Type}(I:σ→St)(y:σ)(h1:WC P k c s (bp k keep I y))(h2:Φ .normal (I y)):WC P k c s Φ:=by
 obtain ⟨e,r,g1,g2⟩:=h1.h
 cases e with
 |normal=>obtain ⟨x,g3,rfl⟩:=g2;exact ⟨⟨_,_,Ev.tidy keep g1 g3,h2⟩⟩
 |exit id=>exact g2.elim
 |ret=>exact g2.elim
theorem Li{A B:Prop}(a:A)(b:B)(k:r)(h:A→B→Hid r→g:=by intro a b h;refine CQ (Ah a b rfl rfl rfl B4) AT rfl ?_;exact h.out):g:=h a b ⟨k⟩
theorem Ys(k:r)(h:Hid r→g:=by intro h;refine AB (A6 rfl) rfl ?_;refine AB (A6 rfl) rfl ?_;refine AR ?_;refine S_ ?_;exact h.out):g:=h ⟨k⟩
theorem Ch(k:r)(h:Hid r→g:=by intro h;refine AB (MW rfl) rfl ?_;refine AB (Bj rfl rfl) rfl ?_;refine AB (Bj rfl rfl) rfl ?_;exact h.out):g:=h ⟨k⟩
theorem FB(k:r)(h:Hid r→g:=by intro h;refine AB (A6 rfl) rfl ?_;refine AB (A6 rfl) rfl ?_;refine AR ?_;refine S_ ?_;refine A2 ?_;refine AB (Ao rfl) rfl ?_;exact h.out):g:=h ⟨k⟩
theorem Al(k:r)(h:Hid r→g:=by intro h;refine AB (A6 rfl) rfl ?_;refine AR ?_;refine S_ ?_;exact h.out):g:=h ⟨k⟩
theorem FN(k:r)(h:Hid r→g:=by intro h;refine AB (Jq rfl) rfl ?_;exact h.out):g:=h ⟨k⟩
theorem OE(k:r)(h:Hid r→g:=by intro h;refine AB (A8 rfl rfl) rfl ?_;exact h.out):g:=h ⟨k⟩
theorem Be(k:r)(h:Hid r→g:=by intro h;refine AB (A6 rfl) rfl ?_;refine AR ?_;refine S_ ?_;refine A2 ?_;refine AB (Ao rfl) rfl ?_;refine AB (Ao rfl) rfl ?_;exact h.out):g:=h ⟨k⟩
theorem CK(k:r)(h:Hid r→g:=by intro h;refine S_ ?_;refine A2 ?_;refine AB (Ao rfl) rfl ?_;refine AB (Ao rfl) rfl ?_;exact h.out):g:=h ⟨k⟩
theorem RZ(k:r)(h:Hid r→g:=by intro h;refine B5 10 mixed K_ rfl rfl rfl ?_;refine AH (Ao rfl) rfl ?_;exact h.out):g:=h ⟨k⟩
theorem Ca(k:r)(h:Hid r→g:=by intro h;refine AH (Ao rfl) rfl ?_;refine AH (Ao rfl) rfl ?_;exact h.out):g:=h ⟨k⟩
theorem Ar(k:r)(h:Hid r→g:=by intro h;refine AR ?_;refine S_ ?_;exact h.out):g:=h ⟨k⟩
theorem UE(h:g:=by exact k_2 (Iu rfl) (Iu rfl) (by (kernel_rfl))):g:=h
theorem AEx(L:List Nd)(N:Nat)(k n:Int)(a:List Int)(m cap:Nat)(hA:Oq L)(hN:L.length=N)(hNl:N≤1000000)(hm:a.length=m)(hml:m≤1000)(hr:∀x∈k::n::a,-9223372036854775808≤x∧x≤9223372036854775807)(he:UM N k n a=0)(hf:YH L ⟨k,n,a⟩=none):Ev prog (.call 21 [AY 0,At k,At n,.c (.sl 1 0 m cap 1)] [.row true (.ac [.sl 2 0 N N 3,.mp 3]),.row false (.ai a),.row true (.an L),.row true (.mp (IZ L))]) (.val (.tup [At ((N:Nat):Int),At ((0:Nat):Int)]) [.row true (.ac [.sl 4 0 (N+1) (N+1) 3,.mp 3]),.row false (.ai a),.dead,.row true (.mp (IZ (L++[⟨k,n,a⟩]))),.row true (.an (L++[⟨k,n,a⟩]))]):=by
 have hok:=mR he
 have c1:=hok.kind
 dsimp only at c1
 have c2:¬(n<0∨(0<n∧df k=false)):=by
  have h3:=hok.num
  dsimp only at h3
  rintro (h | ⟨h,h2⟩)
  ·omega
  ·rw [h3.2 h] at h2;cases h2
 have c2n:¬n<0:=fun h=>c2 (.inl h)
 have c5:=hok.len
 dsimp only at c5
 have ml:=ci k
 have c7:hasB N a=true:=by
  cases hq:hasB N a with
  |true=>rfl
  |false=>revert he;unfold UM;rw [if_neg O_,if_neg c2,if_neg O_,if_pos hq];intro h;cases h
 refine AI func21 rfl ntmps21 rfl AM ?_;refine Ab ?_;refine Ys ?_;refine zU [0,1,2,3,10] (fun (q:Bool)=>⟨118,AU [0,1,2,3,10] [AY 0,At k,At n,.c (.sl 1 0 m cap 1),.c (.val (.bool q))],[.row true (.ac [.sl 2 0 N N 3,.mp 3]),.row false (.ai a),.row true (.an L),.row true (.mp (IZ L))]⟩) (df k) ?_ ?_
 ·by_cases h1:k=1
  ·refine S_ ?_
   refine RT ?_;refine KO ?_;refine AX ?_;refine SN ?_;refine HZ ?_;refine AX ?_;refine SN ?_;refine HZ ?_;refine BZ ?_;exact ⟨true,K_,by simp [df,h1]⟩
  ·by_cases h2:k=2
   ·refine S_ ?_
    refine RT ?_;refine KO ?_;refine E9 ?_;refine KO ?_;refine Dm ?_;refine AX ?_;refine SN ?_;refine HZ ?_;refine BZ ?_;exact ⟨true,K_,by simp [df,h2]⟩
   ·refine S_ ?_
    refine RT ?_;refine KO ?_;refine E9 ?_;refine KO ?_;refine Dm ?_;refine E9 ?_;refine KO ?_;refine Dm ?_;refine BZ ?_;exact ⟨decide (k=4),K_,by simp [df,h1,h2]⟩
 refine A1 ?_;refine Li (ACN k) AJt ?_;refine Ch ?_;refine FB ?_;refine Yt ?_;refine E9 ?_;refine AB (qQ rfl rfl) rfl ?_;refine Dm ?_;refine Al ?_;refine zU [0,1,2,3,11,12,38] (fun (q:Bool)=>⟨118,AU [0,1,2,3,11,12,38] [AY 0,At k,At n,.c (.sl 1 0 m cap 1),At ((SD k:Nat):Int),At ((cZ k:Nat):Int),.c (.val (.bool q))],[.row true (.ac [.sl 2 0 N N 3,.mp 3]),.row false (.ai a),.row true (.an L),.row true (.mp (IZ L))]⟩) false ?_ ?_
 ·by_cases c3:0<n
  ·have c4:df k=true:=by cases hq:df k with
    |true=>rfl
    |false=>exact absurd (Or.inr ⟨c3,hq⟩) c2
   refine A1 ?_;refine Yt ?_;refine E9 ?_;refine AB (qQ rfl rfl) rfl ?_;refine Ee FR ?_;refine E9 ?_;refine FN ?_;refine Ee FR ?_;refine HZ ?_;refine Dm ?_;refine BZ ?_;exact ⟨!(df k),K_,by rw [c4];rfl⟩
  ·refine S_ ?_
   refine RT ?_;refine Yt ?_;refine E9 ?_;refine AB (qQ rfl rfl) rfl ?_;refine Ee FR ?_;refine AX ?_;refine SN ?_;refine Ee FR ?_;refine Dm ?_;refine Dm ?_;refine BZ ?_;exact ⟨false,K_,rfl⟩
 refine A1 ?_;refine pT ?_;refine AX ?_;refine OE ?_;refine E9 ?_;refine pT ?_;refine Ee FR ?_;refine YN ?_;refine AB (II rfl rfl) rfl ?_;refine Dm ?_;refine Be ?_;refine Li (yL L (IZ L) N a m cap hN O_ hm O_) ADj ?_;refine FN ?_;refine ABC ?_;refine Cg rfl (by rw [c7];rfl) ?_
 refine CK ?_;refine AX ?_;refine Li (AGq k n a m cap hm hml hr) AI2 ?_;refine BF ?_;refine UO ?_;refine AB (A7 rfl (sY _ _)) rfl ?_;refine AB (DR rfl rfl xp EO rfl) rfl ?_;refine AX ?_;refine Hl (AB0 (i:=Tryz.t3) (c:= .val (.int .i64 0)) underlying73 underlying9 K_ K_ (fun _=>rfl) rfl rfl rfl hA.keyed trivial (eV hf)) rfl ?_
 refine Ch ?_;refine FB ?_;refine BF ?_;refine UO ?_;refine eQ ?_;refine fJ ?_;refine sn ?_;refine AB (XH (b:=1048576) rfl rfl) rfl ?_;refine Al ?_;refine RZ ?_;refine AH (RG rfl) rfl ?_;refine AH (A7 rfl (sY _ _)) rfl ?_;refine AH (DR rfl rfl xp EO rfl) rfl ?_;refine Ca ?_;refine AH (RG rfl) rfl ?_;refine AH (A7 rfl (ZU _ _)) rfl ?_;refine AH (DR rfl rfl pY EO rfl) rfl ?_;refine AH (Oc rfl underlying53) rfl ?_;refine BJ ?_;refine AD3 (mo (c:= .val (.int .i64 (N:Int))) underlying73 underlying9 rfl rfl rfl rfl hA.keyed trivial (eV hf) AT) ?_;refine Ar ?_;refine rO [(10,[]),(11,[2]),(14,[0])] [0,2] 2 mixed K_ K_ ?_;refine Le (Ao rfl) rfl ?_;refine Le (Ao rfl) rfl ?_;refine Le (RG rfl) rfl ?_;refine Le (A7 rfl (ZU _ _)) rfl ?_;refine ACw [] K_ (DR rfl rfl pY EO rfl) rfl ?_;refine Le (Ao rfl) rfl ?_;refine Le (Ao rfl) rfl ?_;refine Le (Ao rfl) rfl ?_;refine Uk (AK3 (Ah (wx a m cap hm hml) AJ4 rfl rfl rfl rfl)) (fun _=>rfl) rfl ?_
 refine Le (ABm rfl rfl rfl) rfl ?_;refine V4 (Ev.mem (AFF rfl rfl)) rfl AG_ ?_;refine V4 (ABv rfl rfl rfl rfl underlying53 underlying53 AJL hN O_ AM AT) rfl AG_ ?_;refine Le (RG rfl) rfl ?_;refine Le (A7 rfl (ZU _ _)) rfl ?_;refine AA2 (ABw (w:= .ac [.sl 5 0 (N+1) (N+1) 3,.mp 3]) rfl rfl rfl rfl AIi (by show 0<2;decide) rfl AT) rfl AG_ ?_
 refine ADq ?_;refine A1 ?_;refine UO ?_;refine eQ ?_;refine fJ ?_;refine sn ?_;refine AB (E4 (b:=1) rfl rfl O_ O_) rfl ?_;refine Ys ?_;rw [tg,hN]
 exact UE
def swp(l:List Int)(i j:Nat):List Int:=(l.set i (DU l j)).set j (DU l i)
def jA(l:List Int):Nat→List Int
 |0=>l
 |j+1=>swp (jA l j) j (l.length-1-j)
@[simp] theorem AFj(l:List Int)(i j:Nat):(swp l i j).length=l.length:=by simp [swp]
@[simp] theorem SE(l:List Int):∀j,(jA l j).length=l.length
 |0=>rfl
 |j+1=>by simp [jA,SE l j]
theorem zB(l:List Int)(j:Nat)(hj:2*j≤l.length)(i:Nat)(hi:i<l.length):DU (jA l j) i=if i<j∨l.length-1-i<j then DU l (l.length-1-i) else DU l i:=by
 induction j generalizing i with
 |zero=>rw [if_neg O_];rfl
 |succ j ih=>
  have h1:=ih O_
  simp only [jA,swp]
  simp only [DU,List.getD_eq_getElem?_getD,List.getElem?_set,List.length_set,SE] at h1 ⊢
  by_cases e1:l.length-1-j=i
  ·subst e1
   rw [if_pos rfl,if_pos O_,Option.getD_some,h1 j O_,if_neg O_,if_pos O_]
   congr 2
   omega
  ·rw [if_neg e1]
   by_cases e2:j=i
   ·subst e2
    rw [if_pos rfl,if_pos O_,Option.getD_some,h1 _ O_,if_neg O_,if_pos O_]
   ·rw [if_neg e2,h1 i hi]
    by_cases e3:i<j∨l.length-1-i<j
    ·rw [if_pos e3,if_pos O_]
    ·rw [if_neg e3,if_neg O_]
theorem xd(l:List Int)(j:Nat)(hj:j=l.length/2):jA l j=l.reverse:=by
 apply List.ext_getElem (by simp)
 intro i h1 h2
 simp only [SE] at h1
 have h3:=zB l j O_ i h1
 simp only [DU,List.getD_eq_getElem?_getD] at h3
 rw [List.getElem?_eq_getElem (by simpa using h1),Option.getD_some] at h3
 rw [h3,List.getElem_reverse]
 by_cases e:i<j∨l.length-1-i<j
 ·rw [if_pos e,List.getElem?_eq_getElem O_,Option.getD_some]
 ·rw [if_neg e,List.getElem?_eq_getElem O_,Option.getD_some]
  congr 1
  omega
section
variable {P:Program} {S:List Nat} {i:Nat} {M0:Az} {ops:Array Oper} {K:St→Prop} {l:List Oper} {N:Nat} {T:Nat→AV} {M M':Az} {ty pos af}
theorem nA {t : TypeId} {a v : Operand} {b o : Nat} {x : List Int} {w : Int} (hb : S.contains b = true) (ha : AF T a = .c (.ptr b o)) (hv : AF T v = .c (.val (.int .i64 w))) (hm : M[b]? = some (.row true (.ai x))) (hs : EM P t = some 1) (ho : o < x.length) (hM : M.set b (.row true (.ai (pr x o w))) = M')
    (hk : XO P S M0 ops (i + 1) l ⟨N, T, M'⟩ K) : XO P S M0 ops i (⟨none, .store t a v, ty, pos, af, none⟩ :: l) ⟨N, T, M⟩ K := rC hb ha hv hm rfl hs ho (ALl x o w) hM hk
end
theorem Gz(k:r)(h:Hid r→g:=by intro h;refine Df (Ao rfl) rfl ?_;exact h.out):g:=h ⟨k⟩
theorem sr(k:r)(h:Hid r→g:=by intro h;refine Df (F1 rfl rfl underlying41 dT O_) rfl ?_;exact h.out):g:=h ⟨k⟩
theorem S5(k:r)(h:Hid r→g:=by intro h;refine AB (A6 rfl) rfl ?_;exact h.out):g:=h ⟨k⟩
theorem AGj(l:List Int)(n cap:Nat)(hl:l.length=n)(hn:n≤2000000):Ev prog (.call 68 [.c (.sl 0 0 n cap 1)] [.row true (.ai l)]) (.val (.tup []) [.row true (.ai l.reverse)]):=by
 refine AI func68 rfl ntmps68 rfl AM ?_;refine A1 ?_;refine pT ?_;refine AB (jf rfl rfl O_) rfl ?_;refine Ys ?_;refine Q2 [0,2,3] (fun (zz:Nat×Int×List Int)=>⟨28,AU [0,2,3] [.c (.sl 0 0 n cap 1),At (zz.1:Int),At zz.2.1],[.row true (.ai zz.2.2)]⟩) (fun zz=>n-zz.1) (fun zz=>(zz.2.1=(n:Int)-1-(zz.1:Int)∧2*zz.1≤n)∧zz.2.2=jA l zz.1) (0,(n:Int)-1,l) K_ ⟨⟨by simp,by simp⟩,rfl⟩ ?_
 rintro ⟨j,x,q⟩ ⟨⟨hx,hj⟩,hq⟩
 dsimp only at hx hj hq ⊢
 by_cases h1:(j:Int)<x
 ·obtain ⟨k,rfl⟩:∃k:Nat,x=(k:Int):=⟨x.toNat,by omega⟩
  have hqn:q.length=n:=by rw [hq];simp [hl]
  have hs:jA l (j+1)=swp q j k:=by rw [hq];simp only [jA];congr 1;omega
  clear hq
  refine CK ?_;refine OE ?_;refine Ar ?_;refine JF [0] mixed K_ ?_;refine Gz ?_;refine Gz ?_;refine Gz ?_;refine Gz ?_;refine Gz ?_;refine Gz ?_;refine sr ?_;first | first
   |refine Df (Qc rfl rfl E3 EO) rfl ?_
   |refine Df (Th rfl rfl E3 EO) rfl ?_
   |refine Df (MP rfl E3 EO) rfl ?_
   |refine Df (qs rfl rfl rfl E3 EO) rfl ?_
   |refine Df (DR rfl rfl E3 EO rfl) rfl ?_ | first
   |refine F3 K_ (Qc rfl rfl E3 EO) rfl ?_
   |refine F3 K_ (Th rfl rfl E3 EO) rfl ?_
   |refine F3 K_ (MP rfl E3 EO) rfl ?_
   |refine F3 K_ (qs rfl rfl rfl E3 EO) rfl ?_
   |refine F3 K_ (DR rfl rfl E3 EO rfl) rfl ?_
  refine Gz ?_;refine Gz ?_;refine sr ?_;first | first
   |refine Df (Qc rfl rfl E3 EO) rfl ?_
   |refine Df (Th rfl rfl E3 EO) rfl ?_
   |refine Df (MP rfl E3 EO) rfl ?_
   |refine Df (qs rfl rfl rfl E3 EO) rfl ?_
   |refine Df (DR rfl rfl E3 EO rfl) rfl ?_ | first
   |refine F3 K_ (Qc rfl rfl E3 EO) rfl ?_
   |refine F3 K_ (Th rfl rfl E3 EO) rfl ?_
   |refine F3 K_ (MP rfl E3 EO) rfl ?_
   |refine F3 K_ (qs rfl rfl rfl E3 EO) rfl ?_
   |refine F3 K_ (DR rfl rfl E3 EO rfl) rfl ?_
  refine sr ?_;refine nA rfl rfl rfl rfl dT EO AT ?_;refine sr ?_;refine nA rfl rfl rfl rfl dT EO AT ?_;refine Ye ?_;refine A1 ?_;refine AB (B8 (b:=1) rfl rfl O_) rfl ?_;refine AX ?_;refine AB (E4 (b:=1) rfl rfl O_ O_) rfl ?_;refine S5 ?_;refine BZ ?_;refine ⟨(j+1,((k-1:Nat):Int),swp q j k),K_,?_,⟨?_,?_⟩,hs.symm⟩
  ·dsimp only;omega
  ·dsimp only;omega
  ·dsimp only;omega
 ·rw [←xd l j O_,←hq]
  refine CK ?_;refine Yt ?_;refine Ar ?_;exact AEr (by (exact .inl rfl)) (by (kernel_rfl))
def ndA(x:Nd):AV:= .agg (.ac [.val (.int .i64 x.k),.val (.int .i64 x.n),.is x.a])
theorem AKU(n:Nat):Lx prog 4 n=some (.ac (List.replicate n (.val (.bool false)))):=by kernel_rfl
def mark(c:List Bool)(a:List Int):List Bool:=a.foldl (fun c x=>c.set x.toNat true) c
def lk(L:List Nd):Nat→List Bool→List Int
 |0,_=>[]
 |k+1,c=>if T7 c k then (k:Int)::lk L k (mark c (DY L k).a) else lk L k c
def EC(L:List Nd)(i:Nat):List Int:=(lk L (i+1) ((List.replicate (i+1) false).set i true)).reverse
theorem Sp(a:List Int):∀c:List Bool,(mark c a).length=c.length:=by
 induction a with
 |nil=>intro c;rfl
 |cons x a ih=>intro c;exact (ih _).trans (by simp)
theorem vW(c:List Bool)(a:List Int)(j:Nat)(hj:j<a.length):mark c (a.take (j+1))=(mark c (a.take j)).set (DU a j).toNat true:=by
 rw [List.take_succ_eq_append_getElem hj]
 simp only [mark,List.foldl_append,List.foldl_cons,List.foldl_nil,DU,List.getD_eq_getElem?_getD,List.getElem?_eq_getElem hj,Option.getD_some]
theorem Uf(L:List Nd):∀k c,(lk L k c).length≤k
 |0,_=>Nat.le_refl _
 |k+1,c=>by
  unfold lk
  split
  ·exact Nat.succ_le_succ (Uf L k _)
  ·exact Nat.le_succ_of_le (Uf L k _)
theorem cO(L:List Nd)(i:Nat):(EC L i).length≤i+1:=by
 unfold EC
 rw [List.length_reverse]
 exact Uf L _ _
theorem Ak(k:r)(h:Hid r→g:=by intro h;refine AR ?_;refine S_ ?_;refine A2 ?_;refine AB (Ao rfl) rfl ?_;exact h.out):g:=h ⟨k⟩
theorem ADa(L:List Nd)(es:List (Value×Fy))(N i:Nat)(hN:L.length=N)(hi:i<N):Ev prog (.call 46 [AY 0,At (i:Int)] [.row false (.ac [.sl 1 0 N N 3,.mp 2]),.row false (.an L),.row false (.mp es)]) (.val (ndA (DY L i)) [.row false (.ac [.sl 1 0 N N 3,.mp 2]),.row false (.an L),.row false (.mp es)]):=by
 unfold ndA
 refine AI func46 rfl ntmps46 rfl AM ?_;refine Ab ?_;refine Ap (Ay AH7 AM) AT rfl ?_;refine Ak ?_;refine UO ?_;refine eQ ?_;refine fJ ?_;refine AX ?_;refine AB (js rfl rfl underlying53 aq O_) rfl ?_;refine Hl (zi (j:=i) rfl O_ rfl jN aq O_) rfl ?_;refine Bs rfl rfl rfl rfl aq B7 B7 AT ?_;refine Ar ?_;exact kG (Hu rfl rfl jN aq B7 D_) (by (kernel_rfl))
theorem UA(k:r)(h:Hid r→g:=by intro h;refine AB (Jq rfl) rfl ?_;refine AR ?_;exact h.out):g:=h ⟨k⟩
theorem tI(k:r)(h:Hid r→g:=by intro h;refine AB (F1 rfl rfl underlying116 AGK O_) rfl ?_;exact h.out):g:=h ⟨k⟩
theorem RU(k:r)(h:Hid r→g:=by intro h;refine S_ ?_;refine A2 ?_;refine AB (Ao rfl) rfl ?_;refine AB (oA rfl rfl) rfl ?_;exact h.out):g:=h ⟨k⟩
theorem Np(k:r)(h:Hid r→g:=by intro h;refine AB (A6 rfl) rfl ?_;refine AB (A6 rfl) rfl ?_;refine AR ?_;refine Q_ ?_;exact h.out):g:=h ⟨k⟩
theorem En(h:g:=by refine S_ ?_;exact k_2 (Iu rfl) (Iu rfl) (by (kernel_rfl))):g:=h
theorem PH(k:r)(h:Hid r→g:=by intro h;refine S_ ?_;refine A2 ?_;refine AB (Ao rfl) rfl ?_;refine AB (XH (b:=0) rfl rfl) rfl ?_;exact h.out):g:=h ⟨k⟩
theorem GW(k:r)(h:Hid r→g:=by intro h;refine AR ?_;refine S_ ?_;refine A2 ?_;refine AB (Ao rfl) rfl ?_;refine AB (Ao rfl) rfl ?_;exact h.out):g:=h ⟨k⟩
theorem EA(k:r)(h:Hid r→g:=by intro h;refine AR ?_;refine Q_ ?_;exact h.out):g:=h ⟨k⟩
theorem PE(k:r)(h:Hid r→g:=by intro h;refine AB (jf rfl rfl O_) rfl ?_;refine AB (A6 rfl) rfl ?_;refine AR ?_;exact h.out):g:=h ⟨k⟩
theorem fV(k:r)(h:Hid r→g:=by intro h;refine AB (Ao rfl) rfl ?_;refine AR ?_;exact h.out):g:=h ⟨k⟩
theorem AGT(L:List Nd)(es:List (Value×Fy))(N i:Nat)(hN:L.length=N)(hNl:N≤1048576)(hi:i<N)(hA:Oq L):Ev prog (.call 44 [AY 0,At (i:Int)] [.row false (.ac [.sl 1 0 N N 3,.mp 2]),.row false (.an L),.row false (.mp es)]) (.val (.tup [.c (.is (EC L i)),At ((0:Nat):Int)]) [.row false (.ac [.sl 1 0 N N 3,.mp 2]),.row false (.an L),.row false (.mp es)]):=by
 have hh:hasB N [(i:Int)]=true:=by simp [hasB];omega
 refine AI func44 rfl ntmps44 rfl AM ?_;refine Ab ?_;refine S5 ?_;refine Be ?_;refine Ap (fX (l:=[_]) underlying41 oV rfl rfl D_ D_ AM) AT rfl ?_;refine Li (yL L es N [(i:Int)] 1 1 hN O_ rfl O_) ADj ?_;refine UA ?_;rw [hh]
 refine A1 ?_;refine AB (B8 (b:=1) rfl rfl O_) rfl ?_;refine Hl (ACM (n:=i+1) (m:=4) underlying116 rfl rfl ALg AKU O_ O_ rfl) rfl ?_;refine Be ?_;refine tI ?_;refine lT (q:=true) rfl rfl rfl AGK (by rw [List.length_replicate];omega) AT ?_
 refine AZ ?_;refine BF ?_;refine Al ?_;refine EU 7 1 (.ai []) rfl rfl AM rfl ?_;refine S_ ?_;refine Q2 [0,1,6,7,8] (fun (zz:Nat×Int×List Bool×Nat×List Int)=>⟨56,AU [0,1,6,7,8] [AY 0,At (i:Int),.c (.sl 3 0 (i+1) (i+1) 1),.c (.sl 4 0 zz.2.2.2.1 zz.2.2.2.1 1),At zz.2.1],[.row false (.ac [.sl 1 0 N N 3,.mp 2]),.row false (.an L),.row false (.mp es),.row true (.bl zz.2.2.1),.row true (.ai zz.2.2.2.2)]⟩) (fun zz=>zz.1) (fun zz=>(zz.2.1=(zz.1:Int)-1∧zz.1≤i+1∧zz.2.2.1.length=i+1)∧(zz.2.2.2.2.length=zz.2.2.2.1∧zz.1+zz.2.2.2.1≤i+1)∧EC L i=(zz.2.2.2.2++lk L zz.1 zz.2.2.1).reverse) (i+1,(i:Int),(List.replicate (i+1) false).set i true,0,[]) K_ ⟨⟨by simp,Nat.le_refl _,by simp⟩,⟨rfl,by simp⟩,rfl⟩ ?_
 rintro ⟨k,x,c,on,out⟩ ⟨⟨hx,hk,hc⟩,⟨hol,hon⟩,hB⟩
 dsimp only at hx hk hc hol hon hB ⊢
 cases k with
 |zero=>
  subst hx
  rw [hB,show lk L 0 c=[] by rfl,List.append_nil]
  refine RU ?_;refine Ak ?_;refine Hl (MB (AGj out on on hol O_) AKY rfl rfl rfl B4 AT) rfl ?_;refine Ak ?_;refine Np ?_;refine ACJ 4 rfl rfl (by simp [hol]) AT ?_
  exact En
 |succ k=>
  obtain rfl:x=(k:Int):=by omega
  clear hx
  rw [lk.eq_2] at hB
  generalize hq:T7 c k=q at*
  cases q with
  |false=>
   rw [if_neg (by simp)] at hB
   refine PH ?_;refine GW ?_;refine tI ?_;refine AB (rP rfl rfl ADk EO) rfl ?_;refine FN ?_;refine EA ?_;refine FJ rfl (by rw [hq];rfl) ?_
   refine A1 ?_;refine PE ?_;refine ⟨(k,(k:Int)-1,c,on,out),K_,?_,⟨rfl,?_,hc⟩,⟨hol,?_⟩,hB⟩
   ·dsimp only;omega
   ·dsimp only;omega
   ·dsimp only;omega
  |true=>
   rw [if_pos rfl] at hB
   refine PH ?_;refine GW ?_;refine tI ?_;refine AB (rP rfl rfl ADk EO) rfl ?_;refine FN ?_;refine EA ?_;refine Cg rfl (by rw [hq];rfl) ?_
   refine CK ?_;refine Ap (fX (l:=[_]) underlying41 oV rfl rfl D_ D_ AM) AT rfl ?_;refine AF2 rfl rfl rfl rfl underlying41 underlying41 oV Iz Iz O_ AM AT rfl ?_;refine BF ?_;refine UO ?_;refine eQ ?_;refine fJ ?_;refine AX ?_;refine AB (js rfl rfl underlying53 aq O_) rfl ?_;refine AB (A7 rfl (TN _ _)) rfl ?_;refine Hl (Ev.val (AKF (j:=k) rfl O_ rfl Xq O_)) rfl ?_;refine AB (qL rfl underlying41 rfl) rfl ?_;refine fV ?_;have hnd:=hA.nd (i:=k) O_
   have hargs:=hnd.args
   have hlen:=hnd.len.2
   have hml:=ci (DY L k).k
   have hmc:(mark c (DY L k).a).length=i+1:=by rw [Sp];exact hc
   clear hnd
   generalize (DY L k).a=a at*
   generalize hm:a.length=m at*
   refine S_ ?_;refine AK [0,1,6,7,8,43,44,45] (fun (zz:Nat×List Bool)=>⟨56,AU [0,1,6,7,8,43,44,45] [AY 0,At ((i:Int)),.c (.sl 3 0 (i+1) (i+1) 1),.c (.sl 4 0 (on+1) (on+1) 1),At ((k:Int)),.c (.is a),At ((m:Int)),At ((zz.1:Int))],[.row false (.ac [.sl 1 0 N N 3,.mp 2]),.row false (.an L),.row false (.mp es),.row true (.bl zz.2),.row true (.ai (out++[(k:Int)]))]⟩) (fun j=>(j,mark c (a.take j))) (m) K_ ?_ ?_
   ·intro j hj
    dsimp only
    have h1:=hargs (DU a j) (by simp [DU,show j<a.length by omega])
    have h2:(mark c (a.take j)).length=i+1:=by rw [Sp];exact hc
    rw [vW c a j O_]
    generalize mark c (a.take j)=c' at*
    obtain ⟨y,hy⟩:∃y:Nat,DU a j=(y:Int):=⟨(DU a j).toNat,by omega⟩
    refine U7 ?_;refine AB (bD rfl rfl underlying41 dT EO) rfl ?_;refine AB (MP rfl E3 EO) rfl ?_;refine BZ ?_;rw [hy] at h1 ⊢
    rw [Int.toNat_natCast]
    refine CK ?_;refine tI ?_;refine lT (q:=true) rfl rfl rfl AGK EO AT ?_;refine Cj ?_;exact ⟨(j+1,_),K_,rfl⟩
   ·dsimp only
    rw [show a.take m=a by rw [←hm,List.take_length]]
    refine Vx ?_;refine Ak ?_;refine PE ?_;refine ⟨(k,(k:Int)-1,mark c a,on+1,out++[(k:Int)]),K_,?_,⟨rfl,?_,hmc⟩,⟨by simp [hol],?_⟩,by rw [hB];simp⟩
    ·dsimp only;omega
    ·dsimp only;omega
    ·dsimp only;omega
section
variable {P:Program} {T:Nat→AV} {M M':Az} {t t' el:TypeId} {s x:Operand}
theorem AI6{lo hi:Option Operand}{y:List Int}{l h:Nat}(hx:AF T x= .c (.is y))(hu:P.underlying t=some (.slice el))(hs:EM P el=some 1)(hl:US 0 (lo.map (AF T))=some (l:Int))(hh:US y.length (hi.map (AF T))=some (h:Int))(h1:l≤h)(h2:h≤y.length):AS P (AF T) M (.slice t x lo hi none)=some (.c (.is (cut y l (h-l)))):=by
 show Jv P M t (AF T x) (lo.map (AF T)) (hi.map (AF T))=_
 rw [hx]
 simp only [Jv,hu,hl,hh]
 rw [if_pos ⟨hs,by omega,by omega,by omega⟩]
 congr 4
 omega
theorem AEh{lo:Operand}{y:List Int}{l:Nat}{kd:IntKind}(hx:AF T x= .c (.is y))(hl:AF T lo= .c (.val (.int kd (l:Int))))(hu:P.underlying t=some (.slice el))(hs:EM P el=some 1)(h2:l≤y.length):AS P (AF T) M (.slice t x (some lo) none none)=some (.c (.is (y.drop l))):=by
 rw [AI6 (l:=l) (h:=y.length) hx hu hs (by simp [US,HD,hl]) rfl h2 (Nat.le_refl _)]
 congr 3
 unfold cut
 rw [List.take_of_length_le (by simp)]
theorem tJ{l y:AA 8}{n c b by':Nat}{own:Bool}(hs:AF T s= .c (.lb l))(hx:AF T x= .c (.sl b 0 n c 1))(hm:M[b]?=some (.row own (.a8 y)))(hn:y.length=n)(hu:P.underlying t=some (.slice el))(hu2:P.underlying t'=some (.slice el))(he:CH P el=some (1,by'))(hb:(l.length+n)*by'≤140737488355328∧l.length+n≤9223372036854775807):
  Ev P (.op (.call { callee:= .builtin .append,args:= #[s,x],argTypes:= #[t,t'] }) (AF T) M) (.val (.c (.bs (l++y))) M):=
 zA hs (by subst hn;rw [hx];simp [G5,hm,H2,Arr.size]) hu hu2 he hb
theorem ss{l y:AA 8}{by':Nat}(hs:AF T s= .c (.lb l))(hx:AF T x= .c (.bs y))(hu:P.underlying t=some (.slice el))(hu2:P.underlying t'=some (.slice el))(he:CH P el=some (1,by'))(hb:(l.length+y.length)*by'≤140737488355328∧l.length+y.length≤9223372036854775807):
  Ev P (.op (.call { callee:= .builtin .append,args:= #[s,x],argTypes:= #[t,t'] }) (AF T) M) (.val (.c (.bs (l++y))) M):=
 zA hs (by rw [hx];simp [G5]) hu hu2 he hb
end
end Go.Proofs.YtmbepikkgkcgkaaGreatDoor
