/- Merged and shortened by a program: part 5. -/
import Derived.Test.YtmbepikkgkcgkaaGreatDoorUL4
set_option maxRecDepth 100000
set_option maxHeartbeats 8000000
namespace Go.Proofs.YtmbepikkgkcgkaaGreatDoor
open Go.RowKit
variable {g r : Prop}
open Go.Proofs.Tryz
end Go.Proofs.YtmbepikkgkcgkaaGreatDoor
namespace Go.Proofs.YtmbepikkgkcgkaaGreatDoor
open Go.RowKit
open Go.MapKept (IsKey findNow_spec run_checkKey run_findKey)
variable {g r : Prop}
open Go.Proofs.Tryz
theorem mh{k:Nat}{ι:Emb}{M:Ag}{w:World}(hk:k≤M.length)(hR:R ι M w){b:Nat}{l:Loc}{x:Arr}{es:List (Value×C1)}(hb:ι b=some l)(hm:M[b]?=some (.row true x)){ents:Array MapEntry}{clock:Nat}(he:Hi ι es ents):
  Step k ι M w ι (M.set b (.row true (.mp es))) { w with heap:=w.heap.setIfInBounds l.c (.map ents clock) }:=by
 have hown:Cs ι M l.c:=⟨b,l,x,hb,hm,rfl⟩
 have hlt:=hR.lt hb hm
 have far:∀c,c≠l.c→(w.heap.setIfInBounds l.c (.map ents clock))[c]?=w.heap[c]?:=fun c hc=>by rw [Array.getElem?_setIfInBounds_ne (fun e=>hc e.symm)]
 refine Step.make hR (fun b hb=>hR.dom b (by simpa using hb)) (fun b1 l1 own z hb1 hm1=>?_) (fun b1 b2 l1 l2 o1 o2 z1 z2 hne h1 h2 k1 k2 ho=>?_) ⟨rfl,rfl,rfl,by simp,fun c hc hn=>far c (fun e=>hn (by rw [e];exact hown)),fun c hc=>?_⟩ rfl (fun _ _=>rfl) (by simpa using hk) (fun b1 z hb1 hm1=>?_) (fun b1 own z hb1 hm1=>?_) (fun b1 l1 own z hb1 h1 h2=>?_)
 ·rcases CI hm1 with ⟨hne,hm1⟩ | ⟨rfl,e⟩
  ·have hc:l1.c≠l.c:=hR.inj b1 b l1 l own true z x hne hb1 hb hm1 hm (.inr rfl)
   exact (hR.rows b1 l1 own z hb1 hm1).heap (far _ hc) (.refl _)
  ·cases e
   rw [hb] at hb1;cases hb1
   exact ⟨ents,clock,by simp [hlt],he⟩
 ·rcases CI k1 with ⟨e1,m1⟩ | ⟨rfl,e1⟩<;>rcases CI k2 with ⟨e2,m2⟩ | ⟨rfl,e2⟩
  ·exact hR.inj b1 b2 l1 l2 o1 o2 z1 z2 hne h1 h2 m1 m2 ho
  ·exact hR.inj b1 b2 l1 l2 o1 true z1 x hne h1 h2 m1 hm (.inr rfl)
  ·exact hR.inj b1 b2 l1 l2 true o2 x z2 hne h1 h2 hm m2 (.inl rfl)
  ·exact absurd rfl hne
 ·obtain ⟨b1,l1,z,h1,k1,rfl⟩:=hc
  rcases CI k1 with ⟨e1,k1⟩ | ⟨rfl,e1⟩
  ·exact .inr ⟨b1,l1,z,h1,k1,rfl⟩
  ·exact .inr ⟨b1,l1,x,h1,hm,rfl⟩
 ·rw [List.getElem?_set_ne (fun e=>by subst e;rw [hm] at hm1;cases hm1)];exact hm1
 ·rcases CI hm1 with ⟨hne,hm1⟩ | ⟨rfl,e⟩
  ·exact ⟨z,hm1⟩
  ·cases e;exact ⟨x,hm⟩
 ·rcases CI h2 with ⟨hne,h2⟩ | ⟨rfl,e⟩
  ·exact .inr (.inr ⟨b1,l1,own,z,hb1,h1,h2,rfl⟩)
  ·exact .inr (.inr ⟨b1,l1,true,x,hb1,h1,hm,rfl⟩)
theorem aw{ι:Emb}{M:Ag}{w:World}(hR:R ι M w):Step M.length ι M w (ι.upd M.length ⟨w.heap.size,0,0⟩) (M++[.row true (.mp [])]) (w.alloc (.map #[] 0)):=by
 have hle:=hR.upd_le ⟨w.heap.size,0,0⟩
 have old:∀c,c<w.heap.size→(w.alloc (.map #[] 0)).heap[c]?=w.heap[c]?:=fun c hc=>by show (w.heap.push _)[c]?=_;rw [Array.getElem?_push,if_neg O_]
 refine Step.make hR (fun b hb=>?_) (fun b l own y hb hm=>?_) (fun b b' l l' own own' y y' hne hb hb' hm hm' ho=>?_) ⟨rfl,rfl,rfl,by show _≤(w.heap.push _).size;simp,fun c hc _=>old c hc,fun c hc=>?_⟩ rfl (fun b hb=>Emb.upd_ne O_) (by simp) (fun b x hb hm=>by rw [List.getElem?_append_left hb];exact hm) (fun b own x hb hm=>⟨x,by rwa [List.getElem?_append_left hb] at hm⟩) (fun b l own y hb h1 h2=>?_)
 ·simp at hb
  rw [Emb.upd_ne O_];exact hR.dom b O_
 ·rcases Cd hm with ⟨hlt,hm⟩ | ⟨rfl,e⟩
  ·rw [Emb.upd_ne O_] at hb
   exact (hR.rows b l own y hb hm).heap (old _ (hR.lt hb hm)) hle
  ·cases e
   rw [Emb.upd_eq] at hb
   cases hb
   exact ⟨#[],0,by show (w.heap.push _)[w.heap.size]?=_;rw [Array.getElem?_push,if_pos rfl],rfl,fun i p h=>by simp at h⟩
 ·rcases Cd hm with ⟨hlt,hm⟩ | ⟨rfl,e⟩<;>rcases Cd hm' with ⟨hlt',hm'⟩ | ⟨rfl,e'⟩
  ·rw [Emb.upd_ne O_] at hb hb'
   exact hR.inj b b' l l' own own' y y' hne hb hb' hm hm' ho
  ·rw [Emb.upd_ne O_] at hb
   rw [Emb.upd_eq] at hb'
   cases hb'
   have:=hR.lt hb hm
   show l.c≠w.heap.size
   omega
  ·rw [Emb.upd_ne O_] at hb'
   rw [Emb.upd_eq] at hb
   cases hb
   have:=hR.lt hb' hm'
   show w.heap.size≠l'.c
   omega
  ·exact absurd rfl hne
 ·obtain ⟨b,l,y,hb,hm,rfl⟩:=hc
  rcases Cd hm with ⟨hlt,hm⟩ | ⟨rfl,e⟩
  ·rw [Emb.upd_ne O_] at hb
   exact .inr ⟨b,l,y,hb,hm,rfl⟩
  ·rw [Emb.upd_eq] at hb
   cases hb
   exact .inl (Nat.le_refl _)
 ·rcases Cd h2 with ⟨hlt,h2⟩ | ⟨rfl,e⟩
  ·omega
  ·rw [Emb.upd_eq] at h1
   cases h1
   exact .inl (Nat.le_refl _)
def Keyed(d:TypeDesc)(es:List (Value×C1)):Prop:=(∀p∈es,IsKey d p.1)∧es.Pairwise fun p q=>p.1≠q.1
theorem Keyed.ents{d:TypeDesc}{es:List (Value×C1)}(h:Keyed d es){ι:Emb}{ents:Array MapEntry}(he:Hi ι es ents):∀x∈ents.toList,IsKey d x.key:=by
 intro x hx
 obtain ⟨i,hi,rfl⟩:=List.getElem_of_mem hx
 simp only [Array.length_toList] at hi
 have hi':i<es.length:=by rw [←he.1];exact hi
 obtain ⟨e,h1,h2,_⟩:=he.2 i es[i] (by simp [hi'])
 rw [Array.getElem?_eq_getElem hi] at h1
 cases h1
 rw [Array.getElem_toList,h2]
 exact h.1 _ (List.getElem_mem _)
theorem iR{ι:Emb}{es:List (Value×C1)}{ents:Array MapEntry}(he:Hi ι es ents){k:Value}(hk:∀p∈es,p.1≠k):∀x∈ents.toList,x.key≠k:=by
 intro x hx
 obtain ⟨i,hi,rfl⟩:=List.getElem_of_mem hx
 simp only [Array.length_toList] at hi
 have hi':i<es.length:=by rw [←he.1];exact hi
 obtain ⟨e,h1,h2,_⟩:=he.2 i es[i] (by simp [hi'])
 rw [Array.getElem?_eq_getElem hi] at h1
 cases h1
 rw [Array.getElem_toList,h2]
 exact hk _ (List.getElem_mem _)
theorem Wg{P:Program}{ι:Emb}{w:World}{kt:TypeId}{d:TypeDesc}{es:List (Value×C1)}{ents:Array MapEntry}(hd:P.underlying kt=some d)(hes:Keyed d es)(he:Hi ι es ents){k:Value}(hk:IsKey d k)(hn:∀p∈es,p.1≠k):(Instr.findKey kt k ents.toList).run P w= .ok none w:=by
 refine run_findKey hd ?_;rcases findNow_spec hk ents.toList 0 (hes.ents he) with ⟨h,_⟩ | ⟨j,e,_,h2,h3⟩
 ·exact h
 ·exact absurd h3 (iR he hn _ (List.mem_of_getElem? h2))
theorem WH{P:Program}{ι:Emb}{w:World}{kt:TypeId}{d:TypeDesc}{es:List (Value×C1)}{ents:Array MapEntry}(hd:P.underlying kt=some d)(hes:Keyed d es)(he:Hi ι es ents){k:Value}{c:C1}(hm:(k,c)∈es):∃j v,(Instr.findKey kt k ents.toList).run P w= .ok (some (j,v)) w∧c.cell.rel ι v:=by
 rcases findNow_spec (hes.1 _ hm) ents.toList 0 (hes.ents he) with ⟨_,h⟩ | ⟨j,e,h1,h2,h3⟩
 ·obtain ⟨i,hi,e⟩:=List.getElem_of_mem hm
  obtain ⟨x,h1,h2,_⟩:=he.2 i (k,c) (by simp [hi,e])
  exact absurd h2 (h x (by rw [←Array.getElem?_toList] at h1;exact List.mem_of_getElem? h1))
 ·have hj:j<es.length:=by
   have:=(List.getElem?_eq_some_iff.1 h2).1
   rw [Array.length_toList,he.1] at this;exact this
  obtain ⟨x,g1,g2,g3⟩:=he.2 j es[j] (by simp [hj])
  rw [Array.getElem?_toList,g1] at h2
  cases h2
  have hp:es[j]=(k,c):=by
   obtain ⟨i,hi,e1⟩:=List.getElem_of_mem hm
   rcases Nat.lt_trichotomy i j with hij | hij | hij
   ·have:=List.pairwise_iff_getElem.1 hes.2 i j hi hj hij
    rw [e1] at this
    exact absurd (g2.symm.trans h3).symm this
   ·subst hij;exact e1
   ·have:=List.pairwise_iff_getElem.1 hes.2 j i hj hi hij
    rw [e1] at this
    exact absurd (g2.symm.trans h3) this
  rw [hp] at g3
  exact ⟨_,_,run_findKey hd h1,g3⟩
section
variable {P:Program} {e:Operand→AV} {M M':Ag} {b:Nat} {t kt el:TypeId} {d:TypeDesc} {x ix y:Operand} {es:List (Value×C1)} {k:Value} {c:C1} {own:Bool}
theorem Rz:Ev P (.op (.makeMap t none) e M) (.val (.c (.mp M.length)) (M++[.row true (.mp [])])):=
 Ev.sem fun O ι w ρ hO hR _=>by
  obtain ⟨dst,op,ty,pos,af,gd⟩:=O
  subst hO
  refine .inl ⟨.map (some w.heap.size),_,_,.inl ?_,⟨_,Emb.upd_eq _ _ _,rfl⟩,aw hR⟩
  simp [execOp,Instr.makeMap]
theorem Yi{ι:Emb}{w:World}(hR:R ι M w)(hm:M[b]?=some (.row own (.mp es))){v:Value}(hv:Cell.rel ι (.mp b) v):∃l ents clock,ι b=some l∧v= .map (some l.c)∧w.heap[l.c]?=some (.map ents clock)∧Hi ι es ents:=by
 obtain ⟨l,hl,rfl⟩:=hv
 obtain ⟨ents,clock,h1,h2⟩:=hR.rows b l own _ hl hm
 exact ⟨l,ents,clock,hl,rfl,h1,h2⟩
theorem pm(ht:P.underlying t=some (.map kt el))(hd:P.underlying kt=some d)(hx:e x= .c (.mp b))(hi:e ix= .c (.val k))(hm:M[b]?=some (.row own (.mp es)))(hes:Keyed d es)(hk:(k,c)∈es):Ev P (.op (.lookup t x ix true) e M) (.val (.tup [.c c.cell,.c (.val (.bool true))]) M):=
 Ev.sem fun O ι w ρ hO hR hρ=>by
  obtain ⟨dst,op,ty,pos,af,gd⟩:=O
  subst hO
  have h1:=hρ x (by simp [Op.operands])
  have h2:=hρ ix (by simp [Op.operands])
  rw [hx] at h1;rw [hi] at h2
  obtain ⟨l,ents,clock,hl,hv,hh,he⟩:=Yi hR hm h1
  obtain ⟨j,v,g1,g2⟩:=WH (w:=w) hd hes he hk
  have h2:ρ ix=k:=h2
  refine .inl ⟨.tuple #[v,.bool true],w,ι,.inl ?_,?_,Step.refl hR (Nat.le_refl _)⟩
  ·simp [execOp,Instr.lookup,run_underlying ht,hv,h2,Go.MapKept.run_getObj_map hh,run_checkKey hd (hes.1 _ hk),g1]
  ·refine ⟨_,rfl,rfl,fun i x u hx hu=>?_⟩
   match i with
   |0=>simp at hx hu;subst hx;subst hu;exact g2
   |1=>simp at hx hu;subst hx;subst hu;exact rfl
   |i+2=>simp at hx
theorem IG(ht:P.underlying t=some (.map kt el))(hd:P.underlying kt=some d)(hx:e x= .c (.mp b))(hi:e ix= .c (.val k))(hm:M[b]?=some (.row own (.mp es)))(hes:Keyed d es)(hk:(k,c)∈es):Ev P (.op (.lookup t x ix false) e M) (.val (.c c.cell) M):=
 Ev.sem fun O ι w ρ hO hR hρ=>by
  obtain ⟨dst,op,ty,pos,af,gd⟩:=O
  subst hO
  have h1:=hρ x (by simp [Op.operands])
  have h2:=hρ ix (by simp [Op.operands])
  rw [hx] at h1;rw [hi] at h2
  obtain ⟨l,ents,clock,hl,hv,hh,he⟩:=Yi hR hm h1
  obtain ⟨j,v,g1,g2⟩:=WH (w:=w) hd hes he hk
  have h2:ρ ix=k:=h2
  refine .inl ⟨v,w,ι,.inl ?_,g2,Step.refl hR (Nat.le_refl _)⟩
  simp [execOp,Instr.lookup,run_underlying ht,hv,h2,Go.MapKept.run_getObj_map hh,run_checkKey hd (hes.1 _ hk),g1]
theorem et{i:TypeInfo}{z:Value}(ht:P.underlying t=some (.map kt el))(hd:P.underlying kt=some d)(hz:P.info? el=some i)(hz':i.zero=some z)(hc:∀ι,c.cell.rel ι z)(hx:e x= .c (.mp b))(hi:e ix= .c (.val k))(hm:M[b]?=some (.row own (.mp es)))(hes:Keyed d es)(hk:IsKey d k)(hn:∀p∈es,p.1≠k):Ev P (.op (.lookup t x ix true) e M) (.val (.tup [.c c.cell,.c (.val (.bool false))]) M):=
 Ev.sem fun O ι w ρ hO hR hρ=>by
  obtain ⟨dst,op,ty,pos,af,gd⟩:=O
  subst hO
  have h1:=hρ x (by simp [Op.operands])
  have h2:=hρ ix (by simp [Op.operands])
  rw [hx] at h1;rw [hi] at h2
  obtain ⟨l,ents,clock,hl,hv,hh,he⟩:=Yi hR hm h1
  have g1:=Wg (w:=w) hd hes he hk hn
  have h2:ρ ix=k:=h2
  refine .inl ⟨.tuple #[z,.bool false],w,ι,.inl ?_,?_,Step.refl hR (Nat.le_refl _)⟩
  ·simp [execOp,Instr.lookup,run_underlying ht,hv,h2,Go.MapKept.run_getObj_map hh,run_checkKey hd hk,g1,zeroValue,typeInfo,hz,hz']
  ·refine ⟨_,rfl,rfl,fun i x u hx hu=>?_⟩
   match i with
   |0=>simp at hx hu;subst hx;subst hu;exact hc ι
   |1=>simp at hx hu;subst hx;subst hu;exact rfl
   |i+2=>simp at hx
theorem Qh(ht:P.underlying t=some (.map kt el))(hd:P.underlying kt=some d)(hx:e x= .c (.mp b))(hi:e ix= .c (.val k))(hy:e y= .c c.cell)(hm:M[b]?=some (.row true (.mp es)))(hes:Keyed d es)(hk:IsKey d k)(hn:∀p∈es,p.1≠k)(hM:M.set b (.row true (.mp (es++[(k,c)])))=M'):Ev P (.op (.mapUpdate t x ix y) e M) (.val (.c .any) M'):=
 Ev.sem fun O ι w ρ hO hR hρ=>by
  obtain ⟨dst,op,ty,pos,af,gd⟩:=O
  subst hO;subst hM
  have h1:=hρ x (by simp [Op.operands])
  have h2:=hρ ix (by simp [Op.operands])
  have h3:=hρ y (by simp [Op.operands])
  rw [hx] at h1;rw [hi] at h2;rw [hy] at h3
  obtain ⟨l,ents,clock,hl,hv,hh,he⟩:=Yi hR hm h1
  have g1:=Wg (w:=w) hd hes he hk hn
  have h2:ρ ix=k:=h2
  refine .inl ⟨undef,_,ι,.inr ⟨?_,rfl⟩,trivial,mh (Nat.le_refl _) hR hl hm (ents:=ents.push ⟨k,ρ y,clock⟩) (clock:=clock+1) ⟨by simp [he.1],fun i p hp=>?_⟩⟩
  ·simp [execOp,Instr.mapUpdate,run_underlying ht,hv,h2,Go.MapKept.run_getObj_map hh,run_checkKey hd hk,g1,Go.MapKept.run_setObj_map _ hh]
  ·by_cases hi:i<es.length
   ·rw [List.getElem?_append_left hi] at hp
    obtain ⟨e,k1,k2⟩:=he.2 i p hp
    exact ⟨e,by rw [Array.getElem?_push,if_neg (by rw [he.1];omega)];exact k1,k2⟩
   ·rw [List.getElem?_append_right O_] at hp
    have:i=es.length:=by
     have:=(List.getElem?_eq_some_iff.1 hp).1
     simp at this;omega
    subst this
    simp at hp;subst hp
    exact ⟨⟨k,ρ y,clock⟩,by rw [Array.getElem?_push,if_pos he.1.symm],rfl,h3⟩
end
end Go.Proofs.YtmbepikkgkcgkaaGreatDoor
namespace Go.Proofs.YtmbepikkgkcgkaaGreatDoor
open Go.RowKit
variable {g r : Prop}
open Go.Proofs.Tryz
section
variable {P:Program} {k N:Nat} {ops:Array Oper} {d:Nat} {ty:TypeId} {pos:String} {af:Array Edge} {l0:List Oper} {T:Nat→AV} {M M':Ag} {K:St→Prop} {t t' el:TypeId} {x i a s:Operand}
theorem uA{y:AB 8}{n:Nat}(hx:AC T x= .c (.bs y))(hu:P.underlying t=some (.slice el))(hn:y.length=n):AI P (AC T) M (.call { callee:= .builtin .len,args:= #[x],argTypes:= #[t] })=some (.c (.val (.int .i64 (n:Int)))):=by
 subst hn
 show Qe P t (AC T x)=_
 rw [hx];simp [Qe,DD,hu]
theorem uc{y:List Int}{n:Nat}(hx:AC T x= .c (.is y))(hu:P.underlying t=some (.slice el))(hn:y.length=n):AI P (AC T) M (.call { callee:= .builtin .len,args:= #[x],argTypes:= #[t] })=some (.c (.val (.int .i64 (n:Int)))):=by
 subst hn
 show Qe P t (AC T x)=_
 rw [hx];simp [Qe,DD,hu]
theorem rc{lo hi:Option Operand}{y:AB 8}{l h:Nat}(hx:AC T x= .c (.bs y))(hu:P.underlying t=some (.slice el))(hs:DN P el=some 1)(hl:PJ 0 (lo.map (AC T))=some (l:Int))(hh:PJ y.length (hi.map (AC T))=some (h:Int))(h1:l≤h)(h2:h≤y.length):AI P (AC T) M (.slice t x lo hi none)=some (.c (.bs (cut y l (h-l)))):=by
 show G9 P M t (AC T x) (lo.map (AC T)) (hi.map (AC T))=_
 rw [hx]
 simp only [G9,hu,hl,hh]
 rw [if_pos ⟨hs,by omega,by omega,by omega⟩]
 congr 4
 omega
theorem nH{lo:Operand}{y:AB 8}{l:Nat}{kd:IntKind}(hx:AC T x= .c (.bs y))(hl:AC T lo= .c (.val (.int kd (l:Int))))(hu:P.underlying t=some (.slice el))(hs:DN P el=some 1)(h2:l≤y.length):AI P (AC T) M (.slice t x (some lo) none none)=some (.c (.bs (y.drop l))):=by
 rw [rc (l:=l) (h:=y.length) hx hu hs (by simp [PJ,FD,hl]) rfl h2 (Nat.le_refl _)]
 congr 3
 unfold cut
 rw [List.take_of_length_le (by simp)]
theorem cQ{hi:Operand}{y:AB 8}{h:Nat}{kd:IntKind}(hx:AC T x= .c (.bs y))(hh:AC T hi= .c (.val (.int kd (h:Int))))(hu:P.underlying t=some (.slice el))(hs:DN P el=some 1)(h2:h≤y.length):AI P (AC T) M (.slice t x none (some hi) none)=some (.c (.bs (y.take h))):=by
 rw [rc (l:=0) (h:=h) hx hu hs rfl (by simp [PJ,FD,hh]) (Nat.zero_le _) h2]
 rfl
theorem tw{y:AB 8}{kd:IntKind}{j:Nat}(hx:AC T x= .c (.bs y))(hi:AC T i= .c (.val (.int kd (j:Int))))(hu:P.underlying t=some (.slice el))(hs:DN P el=some 1)(h0:j<y.length):AI P (AC T) M (.indexAddr t x i)=some (.c (.qb y j)):=by
 show G7 P t (AC T x) (AC T i)=_
 rw [hx,hi]
 have h1:(0:Int)≤(j:Int)∧(j:Int)<(y.length:Int):=by omega
 simp only [G7,hu,FD,hs,h1,and_self,if_true,Int.toNat_natCast]
theorem Tt{y:List Int}{kd:IntKind}{j:Nat}(hx:AC T x= .c (.is y))(hi:AC T i= .c (.val (.int kd (j:Int))))(hu:P.underlying t=some (.slice el))(hs:DN P el=some 1)(h0:j<y.length):AI P (AC T) M (.indexAddr t x i)=some (.c (.qi y j)):=by
 show G7 P t (AC T x) (AC T i)=_
 rw [hx,hi]
 have h1:(0:Int)≤(j:Int)∧(j:Int)<(y.length:Int):=by omega
 simp only [G7,hu,FD,hs,h1,and_self,if_true,Int.toNat_natCast]
theorem qo{y:AB 8}{j:Nat}(ha:AC T a= .c (.qb y j))(hr:A5 P t=some false)(h:j<y.length):AI P (AC T) M (.load t a)=some (.c (.val (U8 (nth y j)))):=by
 simp only [AI,ha,Eu,hr,Arr.size,h,if_true,Arr.get]
theorem D5{y:List Int}{j:Nat}(ha:AC T a= .c (.qi y j))(hr:A5 P t=some false)(h:j<y.length):AI P (AC T) M (.load t a)=some (.c (.val (.int .i64 (AX y j)))):=by
 simp only [AI,ha,Eu,hr,Arr.size,h,if_true,Arr.get]
theorem qY{b o:Nat}{own:Bool}{y:List (AB 8)}(ha:AC T a= .c (.ptr b o))(hm:M[b]?=some (.row own (.ab y)))(hr:A5 P t=some false)(ho:o<y.length):AI P (AC T) M (.load t a)=some (.c (.bs (Ih y o))):=
 Bj ha hm hr ho rfl
theorem Oy{b o:Nat}{own:Bool}{y:List Bool}(ha:AC T a= .c (.ptr b o))(hm:M[b]?=some (.row own (.bl y)))(hr:A5 P t=some false)(ho:o<y.length):AI P (AC T) M (.load t a)=some (.c (.val (.bool (I6 y o)))):=
 Bj ha hm hr ho rfl
theorem OV{b o j:Nat}{own:Bool}{y:List Nd}(ha:AC T a= .c (.ptr b o))(hj:o=j*3)(hm:M[b]?=some (.row own (.an y)))(hr:A5 P t=some true)(hs:DN P t=some 3)(h:j<y.length):Ev P (.op (.load t a) (AC T) M) (.val (.agg (.ac [.val (.int .i64 (Al y j).k),.val (.int .i64 (Al y j).n),.is (Al y j).a])) M):=by
 subst hj
 have h3:j*3+3≤Arr.size (.an y):=by show _≤3*y.length;omega
 have hv:AI P (AC T) M (.load t a)=some (.agg (F1 (.an y) (j*3) 3)):=by simp [AI,ha,hm,Eu,hr,hs,h3]
 refine Ev.opPost (Ev.val hv) fun ι w u hk hR hu=>⟨ι,?_,Step.refl hR hk⟩
 obtain ⟨cs,rfl,g1,g2⟩:=hu
 have hsz:(F1 (.an y) (j*3) 3).size=3:=Hs h3
 refine ⟨cs,rfl,g1.trans hsz,fun i hi=>?_⟩
 have hi:i<3:=hi
 obtain ⟨v,e1,e2⟩:=g2 i O_
 refine ⟨v,e1,?_⟩
 rw [OQ hi h3] at e2
 rcases (by omega:i=0∨i=1∨i=2) with e | e | e<;>subst e
 ·rw [show (Arr.an y).get (j*3+0)= .val (.int .i64 (Al y j).k) by simp only [Arr.get];rw [show (j*3+0)/3=j by omega,show (j*3+0)%3=0 by omega];rfl] at e2
  exact e2
 ·rw [show (Arr.an y).get (j*3+1)= .val (.int .i64 (Al y j).n) by simp only [Arr.get];rw [show (j*3+1)/3=j by omega,show (j*3+1)%3=1 by omega];rfl] at e2
  exact e2
 ·rw [show (Arr.an y).get (j*3+2)= .is (Al y j).a by simp only [Arr.get];rw [show (j*3+2)/3=j by omega,show (j*3+2)%3=2 by omega];rfl] at e2
  exact e2
theorem Zq{b o j:Nat}{own:Bool}{y:List Nd}(ha:AC T a= .c (.ptr b o))(hj:o=j*3)(hm:M[b]?=some (.row own (.an y)))(hr:A5 P t=some false)(h:j<y.length):AI P (AC T) M (.load t a)=some (.c (.val (.int .i64 (Al y j).k))):=
 Bj ha hm hr (by show _<3*y.length;omega) (by simp only [Arr.get];rw [show o/3=j by omega,show o%3=0 by omega];rfl)
theorem fN{b o j:Nat}{own:Bool}{y:List Nd}(ha:AC T a= .c (.ptr b o))(hj:o=j*3+2)(hm:M[b]?=some (.row own (.an y)))(hr:A5 P t=some false)(h:j<y.length):AI P (AC T) M (.load t a)=some (.c (.is (Al y j).a)):=
 Bj ha hm hr (by show _<3*y.length;omega) (by simp only [Arr.get];rw [show o/3=j by omega,show o%3=2 by omega];rfl)
theorem pI{y:AB 8}{by' n m:Nat}{e2:TypeId}(hs:AC T s= .c .esl)(hx:AC T x= .c (.bs y))(hu:P.underlying t=some (.slice el))(hu2:P.underlying t'=some (.slice e2))(he:Bh P el=some (1,by'))(hl:y.length=n)(hb:n*by'≤140737488355328∧n≤9223372036854775807)(hn:M.length=m):
  CK P (AC T) M (.call { callee:= .builtin .append,args:= #[s,x],argTypes:= #[t,t'] })=some (.c (.sl m 0 n n 1),M++[.row true (.a8 y)]):=by
 show BX P M t t' (AC T s) (AC T x)=_
 subst hn;subst hl
 rw [hs,hx]
 simp [BX,hu,E5,hu2,he,Ew,Arr.one,hb.1,hb.2]
theorem jm{y u:AB 8}{by' n m b0 len cap:Nat}{e2:TypeId}(hs:AC T s= .c (.sl b0 0 len cap 1))(hms:M[b0]?=some (.row true (.a8 u)))(hx:AC T x= .c (.bs y))(hu:P.underlying t=some (.slice el))(hu2:P.underlying t'=some (.slice e2))(he:Bh P el=some (1,by'))
  (hlu:u.length=len) (hl:y.length=n) (hb:(len+n)*by'≤140737488355328∧len+n≤9223372036854775807∧n*by'≤140737488355328) (hn:M.length=m) (hM:M.set b0 .dead++[.row true (.a8 (u++y))]=M') (hd:decide (d<N)=true) (hk:WO P k ops l0 ⟨N,upd T d (.c (.sl m 0 (len+n) (len+n) 1)),M'⟩ K):
  WO P k ops (⟨some d,.call { callee:= .builtin .append,args:= #[s,x],argTypes:= #[t,t'] },ty,pos,af,none⟩::l0) ⟨N,T,M⟩ K:=
 QX (by
  show BX P M t t' (AC T s) (AC T x)=_
  subst hn;subst hM;subst hl
  rw [hs,hx]
  have hz2:Arr.size (.a8 u)=len:=hlu
  have hn9:y.length≤9223372036854775807:=by omega
  simp [BX,hu,E5,hu2,he,Ew,hms,hz2,F1,Arr.one,Arr.app,hb.1,hb.2.1,hb.2.2,hn9]) hd hk
theorem nZ{y:AB 8}{u:List (AB 8)}{by' m b0 len cap b c:Nat}{own:Bool}{e2:TypeId}(hs:AC T s= .c (.sl b0 0 len cap 1))(hms:M[b0]?=some (.row true (.ab u)))(hx:AC T x= .c (.sl b 0 1 c 1))(hm:M[b]?=some (.row own (.ac [.bs y])))(hu:P.underlying t=some (.slice el))(hu2:P.underlying t'=some (.slice e2))(he:Bh P el=some (1,by'))
  (hlu:u.length=len) (hb:(len+1)*by'≤140737488355328∧len+1≤9223372036854775807∧by'≤140737488355328) (hn:M.length=m) (hM:M.set b0 .dead++[.row true (.ab (u++[y]))]=M') (hd:decide (d<N)=true) (hk:WO P k ops l0 ⟨N,upd T d (.c (.sl m 0 (len+1) (len+1) 1)),M'⟩ K):
  WO P k ops (⟨some d,.call { callee:= .builtin .append,args:= #[s,x],argTypes:= #[t,t'] },ty,pos,af,none⟩::l0) ⟨N,T,M⟩ K:=
 QX (by
  show BX P M t t' (AC T s) (AC T x)=_
  subst hn;subst hM
  rw [hs,hx]
  have hz2:Arr.size (.ab u)=len:=hlu
  have hz:Arr.size (.ac [.bs y])=1:=rfl
  simp [BX,hu,E5,hu2,he,Ew,hm,hms,hz,hz2,F1,Arr.one,Cell.one,Arr.app,hb.1,hb.2.1,hb.2.2]) hd hk
end
theorem WW{k:Nat}{ι:Emb}{M:Ag}{w:World}{b:Nat}{own:Bool}{x y:Arr}(hk:k≤M.length)(hR:R ι M w)(hm:M[b]?=some (.row own x))(hx:x.isMap=false)(hy:y.isMap=false)(hs:y.size=x.size)(hg:∀(ι:Emb) i v,i<x.size→(x.get i).rel ι v→(y.get i).rel ι v)(hb:own=false→k≤b):Step k ι M w ι (M.set b (.row own y)) w:=by
 have src:∀ {i:Nat} {o:Bool} {z:Arr},(M.set b (.row own y))[i]?=some (.row o z)→ ∃z0,M[i]?=some (.row o z0)∧(i=b∧z=y∧z0=x∨i≠b∧z0=z):=fun {i o z} h=>by
  rcases CI h with ⟨h1,h2⟩ | ⟨rfl,h2⟩
  ·exact ⟨z,h2,.inr ⟨h1,rfl⟩⟩
  ·cases h2;exact ⟨x,hm,.inl ⟨rfl,rfl,rfl⟩⟩
 refine Step.make hR (fun b hb=>hR.dom b (by simpa using hb)) (fun i l o z h1 h2=>?_) (fun i i' l l' o o' z z' hne h1 h2 h3 h4 ho=>?_) ⟨rfl,rfl,rfl,Nat.le_refl _,fun _ _ _=>rfl,fun c hc=>?_⟩ rfl (fun _ _=>rfl) (by simpa using hk) (fun i z hi h=>?_) (fun i o z hi h=>?_) (fun i l o z hi h1 h2=>?_)
 ·obtain ⟨z0,h3,h4⟩:=src h2
  rcases h4 with ⟨rfl,rfl,rfl⟩ | ⟨_,rfl⟩
  ·obtain ⟨cs,t,fr,k1,k2,k3,k4⟩:=hR.cells h1 h3 hx
   refine .of hy ⟨cs,t,fr,k1,by rw [hs];exact k2,fun j hj=>?_,k4⟩
   rw [hs] at hj
   obtain ⟨v,e1,e2⟩:=k3 j hj
   exact ⟨v,e1,hg _ _ _ hj e2⟩
  ·exact hR.rows i l o z0 h1 h3
 ·obtain ⟨z0,h5,_⟩:=src h3
  obtain ⟨z0',h6,_⟩:=src h4
  exact hR.inj i i' l l' o o' z0 z0' hne h1 h2 h5 h6 ho
 ·obtain ⟨i,l,z,h1,h2,rfl⟩:=hc
  obtain ⟨z0,h3,_⟩:=src h2
  exact .inr ⟨i,l,z0,h1,h3,rfl⟩
 ·by_cases e:i=b
  ·subst e
   rw [hm] at h
   cases h
   have:=hb rfl
   omega
  ·rw [List.getElem?_set_ne (fun h=>e h.symm)];exact h
 ·obtain ⟨z0,h3,_⟩:=src h
  exact ⟨z0,h3⟩
 ·obtain ⟨z0,h3,_⟩:=src h2
  exact .inr (.inr ⟨i,l,o,z0,hi,h1,h3,rfl⟩)
section
variable {P:Program} {k N:Nat} {c:Code} {T:Nat→AV} {M M':Ag} {Φ:Ex→St→Prop}
end
section
variable {P:Program} {T:Nat→AV} {M:Ag} {t t':TypeId} {x y:Operand}
theorem zX{a:Nat}{kd:IntKind}{j:Nat}(hj:j≤63)(h:a*2^j≤9223372036854775807):binOp .shl t (.int .i64 (a:Int)) (.int kd (j:Int))=(pure (.int .i64 ((a*2^j:Nat):Int)):Sem Value):=by
 have h0:¬(j:Int)<0:=by omega
 have e:((a:Int)*2^j)=((a*2^j:Nat):Int):=by rw [Int.natCast_mul,Int.natCast_pow];rfl
 have hm:min j IntKind.i64.bits=j:=Nat.min_eq_left (by show j≤64;omega)
 show Op.shift .shl .i64 (a:Int) kd (j:Int)=_
 simp only [Op.shift,h0,if_false,Int.toNat_natCast,hm,e]
 rw [IntWalk.i64_in _ O_]
theorem vO{a:Nat}{kd:IntKind}{j:Nat}(hx:AC T x= .c (.val (.int .i64 (a:Int))))(hy:AC T y= .c (.val (.int kd (j:Int))))(hj:j≤63)(h:a*2^j≤9223372036854775807):AI P (AC T) M (.binOp .shl t x y t')=some ((.c (.val (.int .i64 ((a*2^j:Nat):Int))))):=
 Bs hx hy (zX hj h)
theorem orN{a b:Nat}(ha:a<2^63)(hb:b<2^63):binOp .or t (.int .i64 (a:Int)) (.int .i64 (b:Int))=(pure (.int .i64 ((a ||| b:Nat):Int)):Sem Value):=by
 have h:a ||| b<2^63:=Nat.or_lt_two_pow ha hb
 have e:(BitVec.ofInt 64 (a:Int) ||| BitVec.ofInt 64 (b:Int)).toNat=a ||| b:=by
  rw [BitVec.toNat_or,BitVec.ofInt_natCast,BitVec.ofInt_natCast,BitVec.toNat_ofNat,BitVec.toNat_ofNat,Nat.mod_eq_of_lt O_,Nat.mod_eq_of_lt O_]
 show (pure (Value.int .i64 (IntKind.i64.wrap ((BitVec.ofInt 64 (a:Int) ||| BitVec.ofInt 64 (b:Int)).toNat:Nat))):Sem Value)=_
 rw [e,IntWalk.i64_in _ O_]
theorem xm{a b:Nat}(hx:AC T x= .c (.val (.int .i64 (a:Int))))(hy:AC T y= .c (.val (.int .i64 (b:Int))))(ha:a<2^63)(hb:b<2^63):AI P (AC T) M (.binOp .or t x y t')=some ((.c (.val (.int .i64 ((a ||| b:Nat):Int))))):=
 Bs hx hy (orN ha hb)
end
section
variable {P:Program} {k:Nat} {c:Code} {s0:St} {Φ:Ex→St→Prop}
def vA(k:Nat)(keep:List Nat){σ:Type}(I:σ→St)(μ:σ→Nat)(inv:σ→Prop)(y:σ)(Φ:Ex→St→Prop):Ex→St→Prop
 |.normal,s=> ∃x,clean k keep s=some (I x)∧μ x<μ y∧inv x
 |e,s=>Φ e s
theorem DL(keep:List Nat){σ:Type}(I:σ→St)(μ:σ→Nat)(inv:σ→Prop)(y0:σ)(h0:clean k keep s0=some (I y0))(hi:inv y0)(hstep:∀y,inv y→WC P k c (I y) (vA k keep I μ inv y Φ)):WC P k (.loop c) s0 Φ:=by
 refine TY keep h0 ?_;have key:∀n y,μ y≤n→inv y→WC P k (.loop c) (I y) Φ:=by
  intro n
  induction n with
  |zero=>
   intro y hn hy
   obtain ⟨e,r,h1,h2⟩:=(hstep y hy).h
   cases e with
   |normal=>obtain ⟨x,_,h4,_⟩:=h2;omega
   |exit id=>exact ⟨⟨_,r,Ev.loopx h1 (by simp),h2⟩⟩
   |ret=>exact ⟨⟨_,r,Ev.loopx h1 (by simp),h2⟩⟩
  |succ n ih=>
   intro y hn hy
   obtain ⟨e,r,h1,h2⟩:=(hstep y hy).h
   cases e with
   |normal=>
    obtain ⟨x,h3,h4,h5⟩:=h2
    obtain ⟨e',r',h6,h7⟩:=(ih x O_ h5).h
    exact ⟨⟨e',r',Ev.loop h1 (Ev.clean keep h3 h6),h7⟩⟩
   |exit id=>exact ⟨⟨_,r,Ev.loopx h1 (by simp),h2⟩⟩
   |ret=>exact ⟨⟨_,r,Ev.loopx h1 (by simp),h2⟩⟩
 exact key _ y0 (Nat.le_refl _) hi
end
theorem dK{k:Nat}{ι:Emb}{M:Ag}{w w':World}{b:Nat}{l:Loc}{x:Arr}(hk:k≤M.length)(hR:R ι M w)(hb:ι b=some l)(hm:M[b]?=some (.row true x))(ho:w'.os=w.os)(ht:w'.tape=w.tape)(hu:w'.output=w.output)(hsz:w'.heap.size=w.heap.size)(hoth:∀c,c≠l.c→w'.heap[c]?=w.heap[c]?):
  Step k ι M w ⟨ι.f,fun c o v=>ι.tx c o v∨(c=l.c∧ ∃cs t fr,w'.heap[c]?=some (.cells cs t fr)∧cs[o]?=some v)⟩ (M.set b .dead) w':=by
 have hown:Cs ι M l.c:=⟨b,l,x,hb,hm,rfl⟩
 have hle:ι.le ⟨ι.f,fun c o v=>ι.tx c o v∨(c=l.c∧ ∃cs t fr,w'.heap[c]?=some (.cells cs t fr)∧cs[o]?=some v)⟩:=⟨fun _ _ h=>h,fun _ _ _ h=> .inl h⟩
 have src:∀ {i:Nat} {own:Bool} {y:Arr},(M.set b .dead)[i]?=some (.row own y)→i≠b∧M[i]?=some (.row own y):=fun {i own y} h=>by
  rcases CI h with ⟨h1,h2⟩ | ⟨_,h2⟩
  ·exact ⟨h1,h2⟩
  ·cases h2
 have apart:∀ {i:Nat} {l1:Loc} {own:Bool} {z:Arr},i≠b→ι i=some l1→M[i]?=some (.row own z)→l1.c≠l.c:=fun hne h1 k1=>hR.inj _ b _ l _ true _ x hne h1 hb k1 hm (.inr rfl)
 have keep:∀c,c<w.heap.size→ ¬Cs ι M c→w'.heap[c]?=w.heap[c]?:=fun c _ hn=>hoth c (fun e=>hn (by rw [e];exact hown))
 have fresh:∀c,Cs ι (M.set b .dead) c→w.heap.size≤c∨Cs ι M c:=fun c ⟨i,l1,y,h1,h2,h3⟩=> .inr ⟨i,l1,y,h1,(src h2).2,h3⟩
 refine ⟨⟨fun i hi=>hR.dom i (by simpa using hi),fun i l1 own y h1 h2=>?_,fun i i' l1 l1' own own' y y' hne h1 h2 h3 h4 ho=>?_,fun c Φ hc=>?_⟩,⟨ho,ht,hu,Nat.le_of_eq hsz.symm,keep,fun c hc=>fresh c hc⟩,fun _ _ _ h=> .inl h,fun c o v hc=>?_,fun _ _=>rfl,by simpa using hk,fun i y hi h=>?_,fun i own y hi h=>⟨y,(src h).2⟩,fun i l1 own y hi h1 h2=> .inr (.inr ⟨i,l1,own,y,hi,h1,(src h2).2,rfl⟩)⟩
 ·obtain ⟨hne,h3⟩:=src h2
  exact (hR.rows i l1 own y h1 h3).heap (hoth _ (apart hne h1 h3)) hle
 ·exact hR.inj i i' l1 l1' own own' y y' hne h1 h2 (src h3).2 (src h4).2 ho
 ·cases hc with
  |base kb=>exact JJ hR keep fresh c Φ (.base kb)
  |tx hc=>
   rcases hc with hc | ⟨rfl,cs,t,fr,h1,h2⟩
   ·exact JJ hR keep fresh c _ (.tx hc)
   ·refine ⟨⟨_,h1,cs,t,fr,rfl,h2⟩,fun i l' y h3 h4=>?_⟩
    obtain ⟨h5,h6⟩:=src h4
    exact apart h5 h3 h6
 ·rcases hc with hc | ⟨rfl,_⟩
  ·exact .inl hc
  ·exact .inr (.inr hown)
 ·rw [List.getElem?_set_ne (fun e=>by subst e;rw [hm] at h;cases h)];exact h
theorem dT{ι:Emb}{M:Ag}{w w':World}(hR:R ι M w){cs:Array Value}{t:TypeId}(hh:w'.heap=w.heap.push (.cells cs t (0,0)))(ho:w'.os=w.os)(ht:w'.tape=w.tape)(hu:w'.output=w.output):
  Step M.length ι M w ⟨ι.f,fun c o v=>ι.tx c o v∨(c=w.heap.size∧cs[o]?=some v)⟩ M w':=by
 have old:∀c,c<w.heap.size→w'.heap[c]?=w.heap[c]?:=fun c hc=>by rw [hh,Array.getElem?_push,if_neg O_]
 have hle:ι.le ⟨ι.f,fun c o v=>ι.tx c o v∨(c=w.heap.size∧cs[o]?=some v)⟩:=⟨fun _ _ h=>h,fun _ _ _ h=> .inl h⟩
 have keep:∀c,c<w.heap.size→ ¬Cs ι M c→w'.heap[c]?=w.heap[c]?:=fun c hc _=>old c hc
 refine ⟨⟨hR.dom,fun i l own y h1 h2=>(hR.rows i l own y h1 h2).heap (old _ (hR.lt h1 h2)) hle,hR.inj,fun c Φ hc=>?_⟩,⟨ho,ht,hu,by rw [hh];simp,keep,fun c hc=> .inr hc⟩,fun _ _ _ h=> .inl h,fun c o v hc=>?_,fun _ _=>rfl,Nat.le_refl _,fun _ _ _ h=>h,fun _ _ x _ h=>⟨x,h⟩,fun b l own x hb h1 h2=>(Hc hb h2).elim⟩
 ·cases hc with
  |base kb=>exact JJ hR keep (fun c hc=> .inr hc) c Φ (.base kb)
  |tx hc=>
   rcases hc with hc | ⟨rfl,h2⟩
   ·exact JJ hR keep (fun c hc=> .inr hc) c _ (.tx hc)
   ·exact ⟨⟨_,by rw [hh,Array.getElem?_push,if_pos rfl],cs,t,(0,0),rfl,h2⟩,fun b l x h1 h3 e=>by have:=hR.lt h1 h3;omega⟩
 ·rcases hc with hc | ⟨rfl,_⟩
  ·exact .inl hc
  ·exact .inr (.inl (Nat.le_refl _))
def VM(n:Nat)(ι:Emb):Emb:=⟨fun b=>if b<n then ι b else none,ι.tx⟩
def UG(n b:Nat):Option Nat:=if b<n then some b else none
theorem ZD(n:Nat)(ι:Emb):Same (UG n) ι (VM n ι):=by
 refine ⟨fun b b' h=>?_,fun _ _ _ h=>h⟩
 unfold UG at h
 split at h
 ·rename_i hb
  cases h
  exact if_pos hb
 ·cases h
theorem ia{n:Nat}{x:Arr}(h:x.refs.all (· <n)=true):x.ren (UG n)=x:=by
 cases x with
 |ac l=>
  simp only [Arr.refs,List.all_eq_true,List.mem_flatMap,decide_eq_true_eq] at h
  simp only [Arr.ren]
  congr 1
  conv=>rhs;rw [←List.map_id l]
  apply List.map_congr_left
  intro c hc
  have e:∀b,b<n→UG n b=some b:=fun b hb=>if_pos hb
  cases c with
  |ptr b o=>simp only [Cell.ren,e _ (h b ⟨_,hc,by simp [Cell.refs]⟩),id]
  |sl b o n c z=>simp only [Cell.ren,e _ (h b ⟨_,hc,by simp [Cell.refs]⟩),id]
  |mp b=>simp only [Cell.ren,e _ (h b ⟨_,hc,by simp [Cell.refs]⟩),id]
  |xs b n=>simp only [Cell.ren,e _ (h b ⟨_,hc,by simp [Cell.refs]⟩),id]
  |_=>rfl
 |_=>rfl
def Xo(n:Nat)(M:Ag):Bool:=M.all fun r=>r.refs.all (· <n)
theorem ma{k:Nat}{ι:Emb}{M N:Ag}{w:World}(hk:k≤M.length)(hR:R ι (M++N) w)(hr:Xo M.length M=true):Step k ι (M++N) w (VM M.length ι) M w:=by
 have at_:∀ {b:Nat} {l:Loc},VM M.length ι b=some l→b<M.length∧ι b=some l:=fun {b l} h=>by
  unfold VM at h
  dsimp only at h
  split at h
  ·rename_i hb;exact ⟨hb,h⟩
  ·cases h
 have row:∀ {b:Nat} {own:Bool} {x:Arr},M[b]?=some (.row own x)→(M++N)[b]?=some (.row own x):=fun {b own x} h=>by
  rw [List.getElem?_append_left (List.getElem?_eq_some_iff.1 h).1];exact h
 have fresh:∀c,Cs (VM M.length ι) M c→w.heap.size≤c∨Cs ι (M++N) c:=fun c ⟨b,l,x,h1,h2,h3⟩=> .inr ⟨b,l,x,(at_ h1).2,row h2,h3⟩
 refine ⟨⟨fun b hb=>if_neg O_,fun b l own x h1 h2=>?_,fun b b' l l' own own' x x' hne h1 h2 h3 h4 ho=>hR.inj b b' l l' own own' x x' hne (at_ h1).2 (at_ h2).2 (row h3) (row h4) ho,fun c Φ hc=>JJ hR (fun _ _ _=>rfl) fresh c Φ (hc.to ι)⟩,⟨rfl,rfl,rfl,Nat.le_refl _,fun _ _ _=>rfl,fresh⟩,fun _ _ _ h=>h,fun _ _ _ h=> .inl h,fun b hb=>if_pos O_,hk,fun b x hb h=>?_,fun b own x hb h=>⟨x,row h⟩,fun b l own x hb h1 h2=> .inr (.inr ⟨b,l,own,x,hb,(at_ h1).2,row h2,rfl⟩)⟩
 ·have h3:=(hR.rows b l own x (at_ h1).2 (row h2)).ren (ZD M.length ι)
  have hx:x.refs.all (· <M.length)=true:=List.all_eq_true.1 hr _ (List.mem_of_getElem? h2)
  rwa [ia hx] at h3
 ·rwa [List.getElem?_append_left O_] at h
theorem nE{P:Program}{op:Op}{e:Operand→AV}{m N:Ag}{v:AV}(h:Ev P (.op op e m) (.val v (m++N)))(hr:Xo m.length m=true)(hv:v.ren (UG m.length)=v):Ev P (.op op e m) (.val v m):=
 Ev.opPost h fun ι w u hk hR hu=>⟨_,by have:=AV.ren_rel (ZD m.length ι) hu;rwa [hv] at this,ma (Nat.le_refl _) hR hr⟩
section
variable {P:Program} {e:Operand→AV} {M M':Ag} {t t' el:TypeId}
theorem ec{l:AB 8}{by' len n:Nat}{ps:Array (Nat×Operand)}(hu:P.underlying t=some (.slice el))(he:Bh P el=some (1,by'))(hd:EP 0 (ps.toList.map fun p=>(p.1,e p.2))=some (l.map U8))(hl:ps.toList.length=len)(h0:¬len=0)(h1:len≤16777216)(hn:M.length=n):
  Ev P (.op (.buildSlice t len ps) e M) (.val (.c (.xs n len)) (M++[.row true (.a8 l)])):=
 Ev.sem fun O ι w ρ hO hR hρ=>by
  obtain ⟨dst,op,ty,pos,af,gd⟩:=O
  subst hO;subst hn
  obtain ⟨i,z,hi,hz,hs1,hb1,hzs,hsz⟩:=IJ he
  have hpr:=JE (e:=e) (ρ:=ρ) ps.toList fun p hp=>hρ p.2 (by simp [Op.operands];exact ⟨p.1,by simpa using hp⟩)
  have e1:(ps.map fun (i,x)=>(i,ρ x)).toList=ps.toList.map fun p=>(p.1,ρ p.2):=Array.toList_map
  rw [←e1] at hpr
  obtain ⟨g1,g2⟩:=JA hd hpr
  have hlen:l.length=len:=by
   have:=Da hd
   rw [List.length_map,List.length_map,hl] at this
   exact this
  have hrun:=run_buildSlice (P:=P) w t el len (ps.map fun (i,x)=>(i,ρ x)) (l.map U8).toArray i z hu hi hz (by rw [hs1];omega) (by rw [hs1];omega) (by rw [g1,hs1];exact QK g2 (by simp;omega))
  have hst:=GK (w':=w.alloc (.cells (l.map U8).toArray el)) (x:= .a8 l) (t:=el) hR (cs:=(l.map U8).toArray) rfl rfl rfl rfl (by simp [Arr.size]) (fun j hj=>⟨U8 (nth l j),by
   have hj:j<l.length:=hj
   rw [Nat.zero_add,Pm l j hj]
   simp [hj],rfl⟩) rfl
  exact .inl ⟨.slice (some ⟨w.heap.size,0,none⟩) len len,_,_,.inl (by simp [execOp,hrun]),⟨_,Emb.upd_eq _ _ _,rfl⟩,hst.1⟩
theorem fw{x:Operand}{b n:Nat}{l:AB 8}(hx:e x= .c (.xs b n))(ht:P.underlying t=some (.slice el))(he:P.underlying el=some (.int .u8))(hm:M[b]?=some (.row true (.a8 l)))(hn:l.length=n)(hM:M.set b .dead=M'):
  Ev P (.op (.convert t t x) e M) (.val (.c (.lb l)) M'):=
 Ev.sem fun O ι w ρ hO hR hρ=>by
  obtain ⟨dst,op,ty,pos,af,gd⟩:=O
  subst hO;subst hM;subst hn
  have h1:=hρ x (by simp [Op.operands])
  rw [hx] at h1
  obtain ⟨lc,hl,hv⟩:=h1
  obtain ⟨cs,tt,fr,k1,k2,k3,k4⟩:=hR.cells hl hm rfl
  have hsh:w.shape? lc.c=some (tt,cs.size):=by simp only [World.shape?,k1]
  have hrun:(convert t t (.slice (some ⟨lc.c,lc.off,none⟩) l.length l.length)).run P w= .ok (.slice (some ⟨lc.c,lc.off,none⟩) l.length l.length) (w.freeze ⟨lc.c,cs.size,none⟩ 1):=by
   simp [convert,run_underlying ht,run_underlying he,markStringish,hsh]
  have hw:(w.freeze ⟨lc.c,cs.size,none⟩ 1).os=w.os∧(w.freeze ⟨lc.c,cs.size,none⟩ 1).tape=w.tape∧(w.freeze ⟨lc.c,cs.size,none⟩ 1).output=w.output∧(w.freeze ⟨lc.c,cs.size,none⟩ 1).heap.size=w.heap.size:=by
   unfold World.freeze
   rw [if_neg O_]
   exact ⟨rfl,rfl,rfl,by simp⟩
  have hoth:∀c,c≠lc.c→(w.freeze ⟨lc.c,cs.size,none⟩ 1).heap[c]?=w.heap[c]?:=fun c hc=>by
   unfold World.freeze
   rw [if_neg O_]
   simp only [Array.getElem?_modify]
   rw [if_neg (fun h=>hc h.symm)]
  have hat:∃fr',(w.freeze ⟨lc.c,cs.size,none⟩ 1).heap[lc.c]?=some (.cells cs tt fr'):=by
   unfold World.freeze
   rw [if_neg O_]
   simp only [Array.getElem?_modify,if_true,k1]
   exact ⟨_,rfl⟩
  obtain ⟨fr',hat⟩:=hat
  have hst:=dK (Nat.le_refl _) hR hl hm hw.1 hw.2.1 hw.2.2.1 hw.2.2.2 hoth
  refine .inl ⟨.slice (some ⟨lc.c,lc.off,none⟩) l.length l.length,_,_,.inl (by simp [execOp,hv,hrun]),⟨⟨some ⟨lc.c,lc.off,none⟩,l.length,rfl,Nat.le_refl _,?_⟩,some ⟨lc.c,lc.off,none⟩,rfl⟩,hst⟩
  by_cases h0:l.length=0
  ·exact .inl h0
  ·refine .inr ⟨lc.c,lc.off,rfl,⟨lc.off,U8 (nth l 0),.inr ⟨rfl,cs,tt,fr',hat,?_⟩⟩,fun i hi=> .inr ⟨rfl,cs,tt,fr',hat,?_⟩⟩
   ·obtain ⟨u,e1,e2⟩:=k3 0 (by show 0<l.length;omega)
    obtain rfl:u=U8 (nth l 0):=e2
    exact e1
   ·obtain ⟨u,e1,e2⟩:=k3 i hi
    obtain rfl:u=U8 (nth l i):=e2
    exact e1
theorem mJ{s x:Operand}{l y:AB 8}{n by':Nat}(hs:e s= .c (.lb l))(hx:Ew M 1 (e x)=some (n,.a8 y))(hu:P.underlying t=some (.slice el))(hu2:P.underlying t'=some (.slice el))(he:Bh P el=some (1,by'))(hb:(l.length+n)*by'≤140737488355328∧l.length+n≤9223372036854775807):
  Ev P (.op (.call { callee:= .builtin .append,args:= #[s,x],argTypes:= #[t,t'] }) e M) (.val (.c (.bs (l++y))) M):=
 Ev.sem fun O ι w ρ hO hR hρ=>by
  obtain ⟨dst,op,ty,pos,af,gd⟩:=O
  subst hO
  have h1:=hρ s (by simp [Op.operands,Call.operands])
  have h2:=hρ x (by simp [Op.operands,Call.operands])
  rw [hs] at h1
  obtain ⟨hst,pp,hp⟩:=h1
  obtain ⟨i,z,hi,hz,hs1,hb1,hzs,hsz⟩:=IJ he
  obtain ⟨qa,c,news,hq,hnc,hsh⟩:=KH hx O_ hR h2
  obtain ⟨pp',cp,olds,hp',hle,hold⟩:=P9 (M:=M) (y:= .a8 l) (g:=fun i=>U8 (nth l i)) rfl hR hst fun i hi=>rfl
  rw [hp] at hp'
  cases hp'
  have hyn:y.length=n:=by have:=hsh.size;simpa [Arr.size] using this
  have hol:olds.length=l.length:=by have:=hold.len;rw [Nat.mul_one] at this;exact this
  have hnl:news.length=n:=by have:=hsh.len;simpa using this
  have nt:E5 P t'=true:=by simp [E5,hu2]
  rcases Ji (P:=P) (w:=w) t t' ty el i z hu nt hi hz pp qa l.length l.length n c olds news (fun w' hw=>by rw [hs1];exact hold.first P l.length w' hw) (fun w' hw=>by rw [hs1];exact hsh.first P c w' hw) (by rw [hb1];exact hb.1) hb.2 with ⟨hr,er⟩ | ⟨hr,cap',hcap,er⟩
  ·obtain rfl:n=0:=by omega
   obtain rfl:y=[]:=List.eq_nil_of_length_eq_zero hyn
   obtain rfl:news=[]:=List.eq_nil_of_length_eq_zero hnl
   refine .inl ⟨.slice pp l.length l.length,w,ι,.inl ?_,?_,Step.refl hR (Nat.le_refl _)⟩
   ·cases pp<;>simp [execOp,resolve,invoke,builtin,hp,hq,er,storeCells]
   ·rw [List.append_nil]
    rw [hp] at hst
    exact hst
  ·have hsta:=dT (w':=w.drew.alloc (.cells (olds.toArray++news.toArray++Builtin.zeroCells z.cells (cap'-(l.length+n))) el)) (t:=el) hR (cs:=olds.toArray++news.toArray++Builtin.zeroCells z.cells (cap'-(l.length+n))) rfl rfl rfl rfl
   refine .inl ⟨.slice (some ⟨w.heap.size,0,none⟩) (l.length+n) cap',_,_,.inl ?_,?_,hsta⟩
   ·simp [execOp,resolve,invoke,builtin,hp,hq,er]
   ·have cell:∀j,j<(l++y).length→(olds.toArray++news.toArray++Builtin.zeroCells z.cells (cap'-(l.length+n)))[j]?=some (U8 (nth (l++y) j)):=by
     intro j hj
     rw [List.length_append,hyn] at hj
     rw [Array.getElem?_append_left (by simp;omega)]
     by_cases hjl:j<l.length
     ·rw [Array.getElem?_append_left (by simp;omega)]
      obtain ⟨u,e1,e2⟩:=hold.rel j hjl
      obtain rfl:u=U8 (nth l j):=e2
      rw [show nth (l++y) j=nth l j by unfold nth;rw [G4,if_pos hjl]]
      simpa using e1
     ·rw [Array.getElem?_append_right (by simp;omega)]
      obtain ⟨u,e1,e2⟩:=hsh.rel (j-l.length) (by show _<y.length;omega)
      obtain rfl:u=U8 (nth y (j-l.length)):=e2
      rw [show nth (l++y) j=nth y (j-l.length) by unfold nth;rw [G4,if_neg hjl]]
      simp only [List.size_toArray,hol]
      simpa using e1
    have hlen:(l++y).length=l.length+n:=by rw [List.length_append,hyn]
    refine ⟨_,cap',by rw [hlen],by omega,.inr ⟨w.heap.size,0,rfl,⟨0,U8 (nth (l++y) 0),.inr ⟨rfl,?_⟩⟩,fun j hj=> .inr ⟨rfl,?_⟩⟩⟩
    ·exact cell 0 O_
    ·rw [Nat.zero_add];exact cell j hj
end
def Region.okChain(ops:Array Oper)(cs:List Nat)(size:Nat):Bool:=
 Region.okX ops ops.size size&&(List.range ops.size).all fun i=>match ops[i]? with
  |some o=>o.guard.isNone&&(!cs.contains i || (List.range ops.size).all fun j=> !cs.contains j || !decide (i<j) || Ra ops j i)&&o.after.all fun e=> !Region.binds .any e || decide (e.on<i)
  |none=>true
structure wY(ops:Array Oper)(cs:List Nat)(size:Nat):Prop where
 ok:jh ops ops.size size
 guard:∀(i:Nat) (o:Oper),ops[i]?=some o→o.guard=none
 chain:∀(i j:Nat),i<j→j<ops.size→cs.contains i=true→cs.contains j=true→Ra ops j i=true
 back:∀(i:Nat) (o:Oper) (e:Edge),ops[i]?=some o→e∈o.after→Region.binds .any e=true→e.on<i
theorem Region.okChain_spec{ops:Array Oper}{cs:List Nat}{size:Nat}(h:Region.okChain ops cs size=true):wY ops cs size:=by
 simp only [Region.okChain,Bool.and_eq_true,List.all_eq_true,List.mem_range] at h
 obtain ⟨h1,h2⟩:=h
 have lt:∀ {i:Nat} {o:Oper},ops[i]?=some o→i<ops.size:=fun ho=>(Array.getElem?_eq_some_iff.1 ho).1
 refine ⟨Region.okX_spec h1,fun i o ho=>?_,fun i j hij hj hs hs'=>?_,fun i o e ho he hb=>?_⟩
 ·have:=h2 i (lt ho)
  rw [ho] at this
  simp only [Bool.and_eq_true,Option.isNone_iff_eq_none] at this
  exact this.1.1
 ·have:=h2 i O_
  rw [Array.getElem?_eq_getElem (show i<ops.size by omega)] at this
  simp only [Bool.and_eq_true,Bool.or_eq_true,hs,Bool.not_true,Bool.false_eq_true,false_or,List.all_eq_true,List.mem_range] at this
  have:=this.1.2 j hj
  rw [hs'] at this
  simpa [hij] using this
 ·have:=h2 i (lt ho)
  rw [ho] at this
  simp only [Bool.and_eq_true] at this
  have:=Array.all_eq_true_iff_forall_mem.1 this.2 e he
  simpa [hb] using this
def NO(P:Program)(o:Oper)(e:Operand→AV)(m:Ag)(v:AV):Prop:= ∀(ι:Emb) (w:World) (ρ:Operand→Value),R ι m w→(∀x∈o.op.operands,(e x).rel ι (ρ x))→SB P ρ o ι m w v m
structure G1(P:Program)(ops:Array Oper)(cs:List Nat)(A:Nat→St)(V:Nat→AV)(N0:Nat):Prop where
 h0:(A 0).n=N0
 pure:∀(i:Nat) (o:Oper),ops[i]?=some o→cs.contains i=false→(∀c,c≤ops.size→(∀j,j<c→cs.contains j=true→Ra ops j i=false)→NO P o (AC (A i).t) (A c).m (V i))∧A (i+1)=⟨N0,CZ (A i).t o.dst (V i),(A i).m⟩
 chain:∀(i:Nat) (o:Oper),ops[i]?=some o→cs.contains i=true→ ∃m',OH P (.op o.op (AC (A i).t) (A i).m) (.val (V i) m')∧A (i+1)=⟨N0,CZ (A i).t o.dst (V i),m'⟩
section
variable {P:Program} {ops:Array Oper} {cs:List Nat} {A:Nat→St} {V:Nat→AV} {N0:Nat}
theorem G1.next(h:G1 P ops cs A V N0){i:Nat}{o:Oper}(ho:ops[i]?=some o):∃m',A (i+1)=⟨N0,CZ (A i).t o.dst (V i),m'⟩:=by
 cases hs:cs.contains i with
 |true=>obtain ⟨m',_,e⟩:=h.chain i o ho hs;exact ⟨m',e⟩
 |false=>exact ⟨_,(h.pure i o ho hs).2⟩
theorem G1.tmp1(h:G1 P ops cs A V N0){i:Nat}(hi:i<ops.size){t:Nat}(ht:BG ops i≠some t):(A (i+1)).t t=(A i).t t:=by
 have ho:ops[i]?=some (ops[i]'hi):=Array.getElem?_eq_getElem hi
 have hd:BG ops i=(ops[i]'hi).dst:=by simp [BG,ho]
 rw [hd] at ht
 obtain ⟨m',e⟩:=h.next ho
 rw [e]
 show CZ (A i).t (ops[i]'hi).dst (V i) t=_
 cases hdd:(ops[i]'hi).dst with
 |none=>rfl
 |some d=>rw [hdd] at ht;exact upd_ne _ _ (fun e=>ht (by rw [e]))
theorem G1.slot(h:G1 P ops cs A V N0){i t:Nat}:∀d,i+d≤ops.size→(∀j,i≤j→j<i+d→BG ops j≠some t)→(A (i+d)).t t=(A i).t t
 |0,_,_=>rfl
 |d+1,hd,hno=>by
  rw [show i+(d+1)=i+d+1 by omega,h.tmp1 O_ (hno _ O_ O_),G1.slot h d O_ fun j h1 h2=>hno j h1 O_]
theorem G1.slot'(h:G1 P ops cs A V N0){i j t:Nat}(hij:i≤j)(hj:j≤ops.size)(hno:∀l,i≤l→l<j→BG ops l≠some t):(A j).t t=(A i).t t:=by
 have:=h.slot (i:=i) (t:=t) (j-i) O_ (fun l h1 h2=>hno l h1 O_)
 rwa [show i+(j-i)=j by omega] at this
theorem G1.mem(h:G1 P ops cs A V N0){i:Nat}:∀d,i+d≤ops.size→(∀j,i≤j→j<i+d→cs.contains j=false)→(A (i+d)).m=(A i).m
 |0,_,_=>rfl
 |d+1,hd,hno=>by
  have hlt:i+d<ops.size:=by omega
  have ho:ops[i+d]?=some (ops[i+d]'hlt):=Array.getElem?_eq_getElem hlt
  obtain ⟨_,e⟩:=h.pure (i+d) _ ho (hno _ O_ O_)
  rw [show i+(d+1)=i+d+1 by omega,e]
  exact G1.mem h d O_ fun j h1 h2=>hno j h1 O_
theorem G1.mem'(h:G1 P ops cs A V N0){i j:Nat}(hij:i≤j)(hj:j≤ops.size)(hno:∀l,i≤l→l<j→cs.contains l=false):(A j).m=(A i).m:=by
 have:=h.mem (i:=i) (j-i) O_ (fun l h1 h2=>hno l h1 O_)
 rwa [show i+(j-i)=j by omega] at this
structure S1(ops:Array Oper)(cs:List Nat)(A:Nat→St)(k:Nat)(ι0:Emb)(w0:World)(a0:Act)(listed:Array Bool)(ι:Emb)(a:Act)(w:World):Prop where
 cut:∃j,j≤ops.size∧(∀i,i<ops.size→cs.contains i=true→(listed.getD i false=true↔i<j))∧Step k ι0 (A 0).m w0 ι (A j).m w
 le:ι0.le ι
 hit:∀j,j<ops.size→listed.getD j false=true→ ∀d,BG ops j=some d→((A (j+1)).t d).rel ι (a.tmps.getD d undef)
 miss:∀t,(∀j,j<ops.size→listed.getD j false=true→BG ops j≠some t)→a.tmps.getD t undef=a0.tmps.getD t undef
 size:a.tmps.size=a0.tmps.size
 defers:a.defers=a0.defers
 head:HeadInv .any ops ops.size listed
theorem S1.agree(hl:G1 P ops cs A V N0){k:Nat}{ι0:Emb}{w0:World}{a0:Act}(hok:jh ops ops.size a0.tmps.size)(hf:DB ι0 (A 0) a0){listed:Array Bool}{ι:Emb}{a:Act}{w:World}(h:S1 ops cs A k ι0 w0 a0 listed ι a w)
  {i:Nat} (hin:i<ops.size) {o:Oper} (ho:ops[i]?=some o) (hb:∀j,Ra ops i j=true→listed.getD j false=true) (hun:listed.getD i false=false):
  ∀t∈o.looksAt ops,((A i).t t).rel ι (a.tmps.getD t undef):=by
 intro t ht
 by_cases hex:∃j,j<ops.size∧BG ops j=some t
 ·obtain ⟨j,hj,hd⟩:=hex
  rcases hok.look i o t j hin ho ht hj hd with ⟨hji,hbij⟩ | ⟨hij,hbji⟩
  ·have hlj:=hb j hbij
   rw [hl.slot' (i:=j+1) O_ (Nat.le_of_lt hin) (fun l h1 h2 hd'=>by have:=hok.uniq l j t O_ hj hd' hd;omega)]
   exact h.hit j hj hlj t hd
  ·have hnl:listed.getD j false≠true:=fun hlt=>by
    have:=DX h.head.closed hbji (Array.getElem?_eq_getElem hj) (h.head.closed j _ (Array.getElem?_eq_getElem hj) hlt)
    rw [hun] at this;cases this
   rw [h.miss t (fun j' hj' hl' hd'=>hnl (by rw [←hok.uniq j' j t hj' hj hd' hd];exact hl')),hl.slot' (i:=0) (Nat.zero_le i) (Nat.le_of_lt hin) (fun l _ h2 hd'=>by have:=hok.uniq l j t O_ hj hd' hd;omega)]
   exact AV.rel_mono h.le (hf.rel t)
 ·have hno:∀j,j<ops.size→BG ops j≠some t:=fun j hj hd=>hex ⟨j,hj,hd⟩
  rw [h.miss t (fun j hj _=>hno j hj),hl.slot' (i:=0) (Nat.zero_le i) (Nat.le_of_lt hin) (fun l _ h2=>hno l O_)]
  exact AV.rel_mono h.le (hf.rel t)
theorem S1.next{k:Nat}{ι0:Emb}{w0:World}{a0:Act}(hok:jh ops ops.size a0.tmps.size){listed:Array Bool}{ι ι':Emb}{a:Act}{w:World}(h:S1 ops cs A k ι0 w0 a0 listed ι a w)(hle:ι.le ι')
  {i:Nat} (hi:i∈Region.ready .any ops listed) {o:Oper} (ho:ops[i]?=some o) {u:Value} {w':World}
  (hcut:∃j,j≤ops.size∧(∀i',i'<ops.size→cs.contains i'=true→((listed.setIfInBounds i true).getD i' false=true↔i'<j))∧Step k ι0 (A 0).m w0 ι' (A j).m w')
  (hu:∀d,o.dst=some d→((A (i+1)).t d).rel ι' u):S1 ops cs A k ι0 w0 a0 (listed.setIfInBounds i true) ι' (a.put o.dst u) w':=by
 have hin:i<ops.size:=(Array.getElem?_eq_some_iff.1 ho).1
 have his:i<listed.size:=by rw [h.head.size];exact hin
 have hd:BG ops i=o.dst:=by simp [BG,ho]
 have hset:∀j,(listed.setIfInBounds i true).getD j false=true→j=i∨listed.getD j false=true:=fun j hj=>by
  by_cases hji:i=j
  ·exact .inl hji.symm
  ·rw [getD_set_ne false hji] at hj;exact .inr hj
 have hseti:(listed.setIfInBounds i true).getD i false=true:=by simp [his]
 refine ⟨hcut,⟨fun b l hb=>hle.f b l (h.le.f b l hb),fun c o v hc=>hle.tx c o v (h.le.tx c o v hc)⟩,fun j hj hlj d hdj=>?_,fun t ht=>?_,by rw [show (a.put o.dst u).tmps.size=a.tmps.size by cases o.dst<;>simp [Act.put]];exact h.size,by rw [show (a.put o.dst u).defers=a.defers by cases o.dst<;>rfl];exact h.defers,h.head.set hi hin⟩
 ·by_cases hji:j=i
  ·subst hji
   rw [hd] at hdj
   rw [hdj,NX a d d u (by rw [h.size];exact hok.lt j d hj (by rw [hd];exact hdj)),if_pos rfl]
   exact hu d hdj
  ·have hlj':=(hset j hlj).resolve_left hji
   have hne:o.dst≠some d:=fun e=>hji (hok.uniq j i d hj hin hdj (by rw [hd];exact e))
   rw [JH a u hne]
   exact AV.rel_mono hle (h.hit j hj hlj' d hdj)
 ·have h1:o.dst≠some t:=by rw [←hd];exact ht i hin hseti
  rw [JH a u h1]
  exact h.miss t fun j hj hlj=>ht j hj (getD_set_true hlj)
theorem S1.run{Q':Exit→Act→World→Prop}(hl:G1 P ops cs A V N0){k:Nat}{ι0:Emb}{w0:World}{a0:Act}(hS:wY ops cs a0.tmps.size)(hf:DB ι0 (A 0) a0){listed:Array Bool}{ι:Emb}{a:Act}{w:World}(h:S1 ops cs A k ι0 w0 a0 listed ι a w)
  {i:Nat} (hi:i∈Region.ready .any ops listed) {K:Act→World→Prop} (hK:∀ι' a' w',S1 ops cs A k ι0 w0 a0 (listed.setIfInBounds i true) ι' a' w'→K a' w'):wpOp P ops Q' i K a w:=by
 have hok:=hS.ok
 have hr:=mem_ready.1 hi
 have hun:listed.getD i false=false:=getD_both hr.1
 obtain ⟨_,o,ho,hall⟩:=hr
 have hin:i<ops.size:=(Array.getElem?_eq_some_iff.1 ho).1
 have hd:BG ops i=o.dst:=by simp [BG,ho]
 have hdeps:∀j,Ra ops i j=true→listed.getD j false=true:=fun j hb=>DX h.head.closed hb ho hall
 have hag:=h.agree hl hok hf hin ho hdeps hun
 have hopnd:∀x∈o.op.operands,(AC (A i).t x).rel ι (a.eval x):=by
  intro x hx
  cases x with
  |tmp t=>exact hag t (List.mem_append_left _ (List.mem_filterMap.2 ⟨.tmp t,by simpa using hx,rfl⟩))
  |const v=>exact AV.rel_of0 (OC _ v)
  |global g=>trivial
  |func f=>rfl
 obtain ⟨c,hc,hcl,hst⟩:=h.cut
 have his:i<listed.size:=by rw [h.head.size];exact hin
 unfold wpOp
 simp only [ho]
 rw [show Region.wanted o (yielded ops a.tmps)=true by unfold Region.wanted;rw [hS.guard i o ho],if_pos rfl]
 refine .inl ?_;have hval:∀ {ι':Emb} {u:Value},(V i).rel ι' u→ ∀d,o.dst=some d→((A (i+1)).t d).rel ι' u:=fun hv d hdd=>by
  obtain ⟨m',e⟩:=hl.next ho
  rw [e]
  show (CZ (A i).t o.dst (V i) d).rel _ _
  rw [hdd]
  show (upd (A i).t d (V i) d).rel _ _
  rw [upd_eq]
  exact hv
 cases hs:cs.contains i with
 |false=>
  obtain ⟨hv,hstep⟩:=hl.pure i o ho hs
  have hfree:∀j,j<c→cs.contains j=true→Ra ops j i=false:=fun j hj hs'=>by
   have hjn:j<ops.size:=by omega
   have hlj:=(hcl j hjn hs').2 hj
   cases hb:Ra ops j i with
   |false=>rfl
   |true=>
    have:=DX h.head.closed hb (Array.getElem?_eq_getElem hjn) (h.head.closed j _ (Array.getElem?_eq_getElem hjn) hlj)
    rw [hun] at this;cases this
  refine (hv c hc hfree ι w a.eval hst.r hopnd).wp rfl fun u w' ι1 hv1 hst2=>?_
  refine hK ι1 _ _ (h.next hok (hst2.le hst.r) hi ho ⟨c,hc,fun i' hi' hs'=>?_,hst.comp (hst2.low hst.len)⟩ (hval hv1))
  have hne:i≠i':=fun e=>by subst e;rw [hs] at hs';cases hs'
  rw [getD_set_ne false hne]
  exact hcl i' hi' hs'
 |true=>
  obtain ⟨m',hv,hstep⟩:=hl.chain i o ho hs
  have hci:c≤i:=by
   have:=(hcl i hin hs).2
   rcases Nat.lt_or_ge i c with h' | h'
   ·rw [this h'] at hun;cases hun
   ·exact h'
  have hm:(A i).m=(A c).m:=by
   refine hl.mem' hci (Nat.le_of_lt hin) fun l h1 h2=>?_
   cases hs':cs.contains l with
   |false=>rfl
   |true=>
    have:=(hcl l O_ hs').1 (hdeps l (hS.chain l i h2 hin hs' hs))
    omega
  rw [←hm] at hst
  refine (hv o ι w a.eval rfl hst.r hopnd).wp rfl fun u w' ι1 hv1 hst2=>?_
  have hst3:Step k ι0 (A 0).m w0 ι1 (A (i+1)).m w':=by
   rw [hstep]
   exact hst.comp (hst2.low hst.len)
  refine hK ι1 _ _ (h.next hok (hst2.le hst.r) hi ho ⟨i+1,hin,fun i' hi' hs'=>?_,hst3⟩ (hval hv1))
  by_cases hne:i=i'
  ·subst hne;simp [his]
  ·rw [getD_set_ne false hne]
   constructor
   ·intro hli
    rcases Nat.lt_or_ge i' (i+1) with h' | h'
    ·exact h'
    ·have:=DX h.head.closed (hS.chain i i' O_ hi' hs hs') (Array.getElem?_eq_getElem hi') (h.head.closed i' _ (Array.getElem?_eq_getElem hi') hli)
     rw [hun] at this;cases this
   ·intro hlt
    exact hdeps i' (hS.chain i' i O_ hin hs' hs)
theorem S1.any{Q':Exit→Act→World→Prop}(hl:G1 P ops cs A V N0){k:Nat}{ι0:Emb}{w0:World}{a0:Act}(hS:wY ops cs a0.tmps.size)(hf:DB ι0 (A 0) a0)
  (hQ:∀ι' a' w',DB ι' (A ops.size) a'→a'.defers=a0.defers→Step k ι0 (A 0).m w0 ι' (A ops.size).m w'→Q' .normal a' w'):
  ∀(f:Nat) (un:List Nat) (listed:Array Bool) (ι:Emb) (a:Act) (w:World),un.length=f→un.Nodup→(∀j,j∈un↔j<ops.size∧listed.getD j false=false)→S1 ops cs A k ι0 w0 a0 listed ι a w→wpAny P .any ops Q' f listed a w:=by
 have hok:=hS.ok
 intro f
 induction f with
 |zero=>
  intro un listed ι a w hlu _ hun h
  obtain rfl:un=[]:=List.length_eq_zero_iff.1 hlu
  have hdone:∀j,j<ops.size→listed.getD j false=true:=fun j hj=>by
   cases hb:listed.getD j false with
   |true=>rfl
   |false=>have:=(hun j).2 ⟨hj,hb⟩;simp at this
  have hnil:Region.ready .any ops listed=[]:=by
   cases hr:Region.ready .any ops listed with
   |nil=>rfl
   |cons x xs=>
    have hx:x∈Region.ready .any ops listed:=by rw [hr];exact List.mem_cons_self
    obtain ⟨h1,o,ho,_⟩:=mem_ready.1 hx
    have:=hdone x (Array.getElem?_eq_some_iff.1 ho).1
    rw [getD_both h1] at this;cases this
  refine ⟨hnil,?_⟩
  obtain ⟨c,hc,hcl,hst⟩:=h.cut
  have hm:(A ops.size).m=(A c).m:=by
   refine hl.mem' hc (Nat.le_refl _) fun l h1 h2=>?_
   cases hs':cs.contains l with
   |false=>rfl
   |true=>have:=(hcl l h2 hs').1 (hdone l h2);omega
  rw [←hm] at hst
  have hnn:(A ops.size).n=N0:=by
   cases hz:ops.size with
   |zero=>exact hl.h0
   |succ z=>
    have hlt:z<ops.size:=by omega
    obtain ⟨m',e⟩:=hl.next (Array.getElem?_eq_getElem hlt)
    rw [e]
  refine hQ ι a w ⟨by rw [h.size,hf.size,hl.h0,hnn],fun t=>?_⟩ h.defers hst
  by_cases hex:∃j,j<ops.size∧BG ops j=some t
  ·obtain ⟨j,hj,hd⟩:=hex
   rw [hl.slot' (i:=j+1) O_ (Nat.le_refl _) (fun l h1 h2 hd'=>by have:=hok.uniq l j t O_ hj hd' hd;omega)]
   exact h.hit j hj (hdone j hj) t hd
  ·have hno:∀j,j<ops.size→BG ops j≠some t:=fun j hj hd=>hex ⟨j,hj,hd⟩
   rw [h.miss t (fun j hj _=>hno j hj),hl.slot' (i:=0) (Nat.zero_le _) (Nat.le_refl _) (fun l _ h2=>hno l O_)]
   exact AV.rel_mono h.le (hf.rel t)
 |succ f ih=>
  intro un listed ι a w hlu hnd hun h
  refine ⟨fun hnil=>?_,fun i hi=>?_⟩
  ·obtain ⟨i0,hi0⟩:∃i0,i0∈un:=by cases un with | nil=>simp at hlu | cons x _=>exact ⟨x,List.mem_cons_self⟩
   have least:∀m i,i≤m→i∈un→ ∃j,j∈Region.ready .any ops listed:=by
    intro m
    induction m with
    |zero=>
     intro i him hiu
     obtain ⟨hin,hb⟩:=(hun i).1 hiu
     refine ⟨i,mem_ready.2 ⟨getD_in (by rw [h.head.size];exact hin) hb,ops[i]'hin,Array.getElem?_eq_getElem hin,fun e he hbind=>?_⟩⟩
     have:=hS.back i _ e (Array.getElem?_eq_getElem hin) he hbind
     omega
    |succ m ihm=>
     intro i him hiu
     obtain ⟨hin,hb⟩:=(hun i).1 hiu
     by_cases hall:∀e∈(ops[i]'hin).after,Region.binds .any e=true→listed.getD e.on false=true
     ·exact ⟨i,mem_ready.2 ⟨getD_in (by rw [h.head.size];exact hin) hb,_,Array.getElem?_eq_getElem hin,hall⟩⟩
     ·have:∃e∈(ops[i]'hin).after,Region.binds .any e=true∧listed.getD e.on false=false:=by
       apply Classical.byContradiction
       intro hc
       apply hall
       intro e he hbind
       cases hlb:listed.getD e.on false with
       |true=>rfl
       |false=>exact absurd ⟨e,he,hbind,hlb⟩ hc
      obtain ⟨e,he,hbind,hlb⟩:=this
      have hlt:=hS.back i _ e (Array.getElem?_eq_getElem hin) he hbind
      exact ihm e.on O_ ((hun e.on).2 ⟨by omega,hlb⟩)
   obtain ⟨j,hj⟩:=least i0 i0 (Nat.le_refl _) hi0
   rw [hnil] at hj;cases hj
  ·obtain ⟨hun0,o,ho,_⟩:=mem_ready.1 hi
   have hin:i<ops.size:=(Array.getElem?_eq_some_iff.1 ho).1
   refine h.run hl hS hf hi fun ι' a' w' h'=>?_
   have himem:i∈un:=(hun i).2 ⟨hin,getD_both hun0⟩
   refine ih (un.erase i) _ ι' a' w' (by rw [List.length_erase_of_mem himem,hlu];rfl) (hnd.erase i) (fun j=>?_) h'
   rw [hnd.mem_erase_iff,hun j]
   by_cases hji:j=i
   ·subst hji
    have his:j<listed.size:=by rw [h.head.size];exact hin
    simp [his]
   ·rw [getD_set_ne false (fun e=>hji e.symm)]
    simp [hji]
theorem aR {Q : Exit → Act → World → Prop} {id k : Nat} (hm : P.follows .mixedOrders = true) (hl : G1 P ops cs A V (A 0).n) (hall : Region.okChain ops cs (A 0).n = true) {ι : Emb} {w : World} {a : Act} (hf : DB ι (A 0) a) (hR : R ι (A 0).m w) (hk : k ≤ (A 0).m.length)
    (hQ : ∀ ι' a' w', DB ι' (A ops.size) a' → a'.defers = a.defers → Step k ι (A 0).m w ι' (A ops.size).m w' → Q .normal a' w') : (Code.region id ops true).wp P Q a w := by
  refine wp_region_any hm ?_
  have hRd : R ι (A 0).m w.drew := ⟨hR.dom, hR.rows, hR.inj, hR.stay⟩
  have hinv : S1 ops cs A k ι w.drew a (Array.replicate ops.size false) ι a w.drew :=
    ⟨⟨0, Nat.zero_le _, fun i _ _ => by rw [getD_replicate_false]; simp, Step.refl hRd hk⟩, .refl _, fun j _ hl => (by rw [getD_replicate_false] at hl; cases hl), fun _ _ => rfl, rfl, rfl,
      ⟨by simp, fun j oj _ hl => (by rw [getD_replicate_false] at hl; cases hl), fun t ht ht' => by omega⟩⟩
  exact S1.any (w0 := w.drew) (Q' := Q) hl (Region.okChain_spec (by rw [hf.size]; exact hall)) hf
    (fun ι' a' w' h1 h2 h3 => hQ ι' a' w' h1 h2 ⟨h3.r, ⟨h3.trans.os, h3.trans.tape, h3.trans.output, h3.trans.size, h3.trans.keep, h3.trans.fresh⟩, h3.tx, h3.txn, h3.ext, h3.len, h3.ro, h3.old, h3.news⟩) ops.size (List.range ops.size) _ _ _ _ (by simp) List.nodup_range (fun j => by rw [getD_replicate_false]; simp) hinv
end
def Cx(S:List Nat)(D:Nat)(m0 m:Ag):Prop:=m.length≤m0.length+D∧ ∀b,b<m0.length→S.contains b=false→m[b]?=m0[b]?
def Gv(S:List Nat)(D:Nat)(m0:Ag):Ag:=kill S 0 m0++GB D
theorem Cx.R{S:List Nat}{D:Nat}{m0 m:Ag}(h:Cx S D m0 m){ι:Emb}{w:World}(hR:R ι m w):R ι (Gv S D m0) w:=by
 have get:∀ {b:Nat} {own:Bool} {x:Arr},(Gv S D m0)[b]?=some (.row own x)→m[b]?=some (.row own x):=fun {b own x} hb=>by
  unfold Gv at hb
  rcases Nat.lt_or_ge b (kill S 0 m0).length with h1 | h1
  ·rw [List.getElem?_append_left h1] at hb
   obtain ⟨h2,h3⟩:=Ua S m0 0 b own x hb
   rw [Nat.zero_add] at h2
   rw [h.2 b (by rwa [KO] at h1) h2];exact h3
  ·rw [List.getElem?_append_right h1] at hb
   unfold GB at hb
   rw [List.getElem?_replicate] at hb
   split at hb<;>cases hb
 exact ⟨fun b hb=>hR.dom b (by
   have h1:=h.1
   simp only [Gv,GB,List.length_append,KO,List.length_replicate] at hb
   omega),fun b l own x hb hm=>hR.rows b l own x hb (get hm),fun b b' l l' own own' x x' hne hb hb' hm hm' ho=>hR.inj b b' l l' own own' x x' hne hb hb' (get hm) (get hm') ho,fun c Φ hc=>⟨(hR.stay c Φ (hc.to _)).1,fun b l x hb hm=>(hR.stay c Φ (hc.to _)).2 b l x hb (get hm)⟩⟩
theorem UH{P:Program}{S:List Nat}{D:Nat}{m0 m:Ag}(h:Cx S D m0 m){o:Oper}{e:Operand→AV}{v:AV}(hv:AI P e (Gv S D m0) o.op=some v):NO P o e m v:=fun ι w ρ hR hρ=>by
 obtain ⟨u,hu,hrel⟩:=OX hv (h.R hR) hρ
 exact .inl ⟨u,w,ι,.inl hu,hrel,Step.refl hR (Nat.le_refl _)⟩
theorem fv{P:Program}{S:List Nat}{D:Nat}{m0 m:Ag}(h:Cx S D m0 m){o:Oper}{e:Operand→AV}{v:AV}(hv:Ev P (.op o.op e (BT (Gv S D m0))) (.val v (BT (Gv S D m0))))(hn:∀ρ,v.ren ρ=v):NO P o e m v:=fun ι w ρ hR hρ=>by
 have hRk:R ι (BT (Gv S D m0)) w:=xc (h.R hR)
 have unown:∀c,Cs ι (BT (Gv S D m0)) c→False:=by
  rintro c ⟨b,l,x,_,h2,_⟩
  obtain ⟨h3,_⟩:=E4 h2
  cases h3
 have lift:∀ {u:Value} {w':World} {ι1:Emb},v.rel ι1 u→Step (BT (Gv S D m0)).length ι (BT (Gv S D m0)) w ι1 (BT (Gv S D m0)) w'→ ∃ι2,v.rel ι2 u∧Step m.length ι m w ι2 m w':=by
  intro u w' ι1 hu hst
  obtain ⟨ι2,hsame,hst2⟩:=UK (N:=[]) unown rfl hR (by rw [List.append_nil];exact hst)
  refine ⟨ι2,?_,?_⟩
  ·have:=AV.ren_rel hsame hu
   rwa [hn] at this
  ·rw [List.map_nil,List.append_nil] at hst2
   exact hst2
 rcases sound hv o ι w ρ rfl hRk hρ with ⟨u,w',ι1,hr,hu,hst⟩ | ⟨f,args,hr,hc⟩
 ·obtain ⟨ι2,h1,h2⟩:=lift hu hst
  exact .inl ⟨u,w',ι2,hr,h1,h2⟩
 ·refine .inr ⟨f,args,hr,hc.mono fun e' w' ⟨u,ι1,he,hu,hst⟩=>?_⟩
  obtain ⟨ι2,h1,h2⟩:=lift hu hst
  exact ⟨u,ι2,he,h1,h2⟩
def DH(cs:List (Nat×List Nat))(c:Nat):List Nat:=(cs.filter fun p=>decide (p.1<c)).flatMap (·.2)
def OJ(ops:Array Oper)(cs:List (Nat×List Nat))(i:Nat):List Nat:=(cs.filter fun p=> !Ra ops p.1 i).flatMap (·.2)
theorem Cx.sub{S S':List Nat}{D:Nat}{m0 m:Ag}(h:Cx S D m0 m)(hs:∀x∈S,x∈S'):Cx S' D m0 m:=
 ⟨h.1,fun b hb hn=>h.2 b hb (by
  cases hc:S.contains b with
  |false=>rfl
  |true=>
   have:=hs b (by simpa using hc)
   rw [show S'.contains b=true by simpa using this] at hn
   cases hn)⟩
def YW (P : Program) (ops : Array Oper) (S : List Nat) (D : Nat) (M0 : Ag) (cs : List (Nat × List Nat)) (K : St → Prop) : Nat → List Oper → St → Prop
  | _, [], s => K s
  | i, o :: l, s => ((cs.map (·.1)).contains i = true ∧ ∃ v m', Ev P (.op o.op (AC s.t) s.m) (.val v m') ∧ Cx (DH cs (i + 1)) D M0 m' ∧ YW P ops S D M0 cs K (i + 1) l ⟨s.n, CZ s.t o.dst v, m'⟩) ∨
      ((cs.map (·.1)).contains i = false ∧ ∃ v, (∀ m, (Cx S D M0 m ∧ Cx (OJ ops cs i) D M0 m) → NO P o (AC s.t) m v) ∧ YW P ops S D M0 cs K (i + 1) l ⟨s.n, CZ s.t o.dst v, s.m⟩)
structure YO(P:Program)(ops:Array Oper)(S:List Nat)(D:Nat)(M0:Ag)(cs:List (Nat×List Nat))(i:Nat)(l:List Oper)(s:St)(K:St→Prop):Prop where
 h:YW P ops S D M0 cs K i l s
theorem Fe(cs:List (Nat×List Nat)){c c':Nat}(h:c≤c'):∀x∈DH cs c,x∈DH cs c':=by
 intro x hx
 simp only [DH,List.mem_flatMap,List.mem_filter,decide_eq_true_eq] at hx ⊢
 obtain ⟨p,⟨h1,h2⟩,h3⟩:=hx
 exact ⟨p,⟨h1,by omega⟩,h3⟩
theorem YW.line{P:Program}{ops:Array Oper}{S:List Nat}{D:Nat}{M0:Ag}{cs:List (Nat×List Nat)}{K:St→Prop}{N0:Nat}:∀ {l:List Oper} {i:Nat} {s:St},YW P ops S D M0 cs K i l s→s.n=N0→Cx (DH cs i) D M0 s.m→ ∃(A:Nat→St) (V:Nat→AV),A 0=s∧(∀c,c≤l.length→Cx (DH cs (i+c)) D M0 (A c).m)∧
  (∀j o,l[j]?=some o→(cs.map (·.1)).contains (i+j)=false→(∀m,(Cx S D M0 m∧Cx (OJ ops cs (i+j)) D M0 m)→NO P o (AC (A j).t) m (V j))∧A (j+1)=⟨N0,CZ (A j).t o.dst (V j),(A j).m⟩)∧
  (∀j o,l[j]?=some o→(cs.map (·.1)).contains (i+j)=true→ ∃m',Ev P (.op o.op (AC (A j).t) (A j).m) (.val (V j) m')∧A (j+1)=⟨N0,CZ (A j).t o.dst (V j),m'⟩)∧K (A l.length)
 |[],i,s,h,_,ha=>⟨fun _=>s,fun _=> .c .any,rfl,fun c hc=>ha.sub (Fe cs O_),fun j o h=>by simp at h,fun j o h=>by simp at h,h⟩
 |o::l,i,s,h,hn,ha=>by
  rcases h with ⟨hs,v,m',hv,hag,hr⟩ | ⟨hs,v,hv,hr⟩
  ·obtain ⟨A,V,h0,hc,h1,h2,h3⟩:=YW.line (s:=⟨s.n,CZ s.t o.dst v,m'⟩) hr hn hag
   refine ⟨fun i=>match i with | 0=>s | i+1=>A i,fun i=>match i with | 0=>v | i+1=>V i,rfl,fun c hcl=>?_,fun j o' h hs'=>?_,fun j o' h hs'=>?_,h3⟩
   ·cases c with
    |zero=>exact ha
    |succ c=>have:=hc c (by simpa using hcl);rwa [show i+1+c=i+(c+1) by omega] at this
   ·cases j with
    |zero=>rw [Nat.add_zero,hs] at hs';cases hs'
    |succ j=>rw [show i+(j+1)=i+1+j by omega] at hs' ⊢;exact h1 j o' (by simpa using h) hs'
   ·cases j with
    |zero=>simp at h;subst h;exact ⟨m',hv,by simp only;rw [h0,hn]⟩
    |succ j=>rw [show i+(j+1)=i+1+j by omega] at hs';exact h2 j o' (by simpa using h) hs'
  ·obtain ⟨A,V,h0,hc,h1,h2,h3⟩:=YW.line (s:=⟨s.n,CZ s.t o.dst v,s.m⟩) hr hn (ha.sub (Fe cs O_))
   refine ⟨fun i=>match i with | 0=>s | i+1=>A i,fun i=>match i with | 0=>v | i+1=>V i,rfl,fun c hcl=>?_,fun j o' h hs'=>?_,fun j o' h hs'=>?_,h3⟩
   ·cases c with
    |zero=>exact ha
    |succ c=>have:=hc c (by simpa using hcl);rwa [show i+1+c=i+(c+1) by omega] at this
   ·cases j with
    |zero=>simp at h;subst h;exact ⟨hv,by simp only;rw [h0,hn]⟩
    |succ j=>rw [show i+(j+1)=i+1+j by omega] at hs' ⊢;exact h1 j o' (by simpa using h) hs'
   ·cases j with
    |zero=>rw [Nat.add_zero,hs] at hs';cases hs'
    |succ j=>rw [show i+(j+1)=i+1+j by omega] at hs';exact h2 j o' (by simpa using h) hs'
theorem H3{P:Program}{k id:Nat}{l:List Oper}{s:St}{Φ:Ex→St→Prop}(cs:List (Nat×List Nat))(S:List Nat)(D:Nat)(hm:P.follows .mixedOrders=true)(hok:Region.okChain l.toArray (cs.map (·.1)) s.n=true)(hS:(cs.flatMap (·.2)).all (S.contains ·)=true)(h:YO P l.toArray S D s.m cs 0 l s (Φ .normal)):WC P k (.region id l.toArray true) s Φ:=by
 obtain ⟨A,V,h0,hc,h1,h2,h3⟩:=YW.line (N0:=s.n) h.h rfl ⟨Nat.le_add_right _ _,fun _ _ _=>rfl⟩
 subst h0
 refine ⟨⟨.normal,A l.length,Ev.snd ?_,h3⟩⟩
 intro ι w a hk hR hf Q hQ
 have hl:G1 P l.toArray (cs.map (·.1)) A V (A 0).n:=by
  refine ⟨rfl,fun i o ho hs=>?_,fun i o ho hs=>?_⟩
  ·obtain ⟨g1,g2⟩:=h1 i o (by simpa using ho) (by rw [Nat.zero_add];exact hs)
   refine ⟨fun c hcl hfree=>g1 _ ?_,g2⟩
   have hag:=hc c (by simpa using hcl)
   rw [Nat.zero_add] at hag ⊢
   refine ⟨hag.sub fun x hx=>?_,hag.sub fun x hx=>?_⟩
   ·simp only [DH,List.mem_flatMap,List.mem_filter] at hx
    obtain ⟨p,⟨q1,_⟩,q2⟩:=hx
    have:=List.all_eq_true.1 hS x (List.mem_flatMap.2 ⟨p,q1,q2⟩)
    simpa using this
   ·simp only [DH,OJ,List.mem_flatMap,List.mem_filter,decide_eq_true_eq] at hx ⊢
    obtain ⟨p,⟨q1,q3⟩,q2⟩:=hx
    refine ⟨p,⟨q1,?_⟩,q2⟩
    rw [hfree p.1 q3 (by simp only [List.contains_iff_mem];exact List.mem_map.2 ⟨p,q1,rfl⟩)]
    rfl
  ·obtain ⟨m',g1,g2⟩:=h2 i o (by simpa using ho) (by rw [Nat.zero_add];exact hs)
   exact ⟨m',sound g1,g2⟩
 exact aR (Q:=Q) hm hl hok hf hR hk fun ι' a' w' g1 g2 g3=>hQ ι' a' w' (by simpa using g1) g2 (by simpa using g3)
section
variable {P:Program} {ops:Array Oper} {S:List Nat} {D:Nat} {M0 M M':Ag} {cs:List (Nat×List Nat)} {i N d:Nat} {l:List Oper} {T:Nat→AV} {K:St→Prop} {op:Op} {v:AV} {ty:TypeId} {pos:String} {af:Array Edge}
theorem PO{s:St}(h:K s):YO P ops S D M0 cs i [] s K:=⟨h⟩
theorem B7(h:AI P (AC T) (Gv S D M0) op=some v)(hs:(cs.map (·.1)).contains i=false)(hk:YO P ops S D M0 cs (i+1) l ⟨N,upd T d v,M⟩ K):YO P ops S D M0 cs i (⟨some d,op,ty,pos,af,none⟩::l) ⟨N,T,M⟩ K:=
 ⟨.inr ⟨hs,v,fun _ ha=>UH ha.1 h,hk.h⟩⟩
theorem pH(S':List Nat)(hS:(OJ ops cs i).all (S'.contains ·)=true)(h:AI P (AC T) (Gv S' D M0) op=some v)(hs:(cs.map (·.1)).contains i=false)(hk:YO P ops S D M0 cs (i+1) l ⟨N,upd T d v,M⟩ K):YO P ops S D M0 cs i (⟨some d,op,ty,pos,af,none⟩::l) ⟨N,T,M⟩ K:=
 ⟨.inr ⟨hs,v,fun _ ha=>UH (ha.2.sub fun x hx=>by have:=List.all_eq_true.1 hS x hx;simpa using this) h,hk.h⟩⟩
theorem pn(h:Ev P (.op op (AC T) (BT (Gv S D M0))) (.val v (BT (Gv S D M0))))(hn:∀ρ,v.ren ρ=v)(hs:(cs.map (·.1)).contains i=false)(hk:YO P ops S D M0 cs (i+1) l ⟨N,upd T d v,M⟩ K):YO P ops S D M0 cs i (⟨some d,op,ty,pos,af,none⟩::l) ⟨N,T,M⟩ K:=
 ⟨.inr ⟨hs,v,fun _ ha=>fv ha.1 h hn,hk.h⟩⟩
def QG(S:List Nat):Nat→Ag→List Nat
 |_,[]=>[]
 |i,_::m=>if S.contains i then QG S (i+1) m else i::QG S (i+1) m
theorem Tw(S:List Nat):∀(m:Ag) (i b:Nat),b<m.length→S.contains (i+b)=false→i+b∈QG S i m
 |[],_,b,h,_=>by simp at h
 |_::m,i,0,_,h=>by
  rw [Nat.add_zero] at h
  unfold QG
  rw [if_neg (by rw [h];simp)]
  exact List.mem_cons_self
 |_::m,i,b+1,h,h2=>by
  have:=Tw S m (i+1) b (by simpa using h) (by rw [show i+1+b=i+(b+1) by omega];exact h2)
  rw [show i+1+b=i+(b+1) by omega] at this
  unfold QG
  split
  ·exact this
  ·exact List.mem_cons_of_mem _ this
def Qo(m m0:Ag):List Nat→Prop
 |[]=>True
 |b::l=>m[b]?=m0[b]?∧Qo m m0 l
theorem Qr{m m0:Ag}:∀ {l:List Nat},Qo m m0 l→ ∀b∈l,m[b]?=m0[b]?
 |_::_,h,b,hb=>by
  rcases List.mem_cons.1 hb with rfl | hb
  ·exact h.1
  ·exact Qr h.2 b hb
theorem iZ(hl:Nat.ble M.length (M0.length+D)=true)(h:Qo M M0 (QG S 0 M0)):Cx S D M0 M:=
 ⟨Nat.le_of_ble_eq_true hl,fun b hb hs=>Qr h b (by have:=Tw S M0 0 b hb (by rw [Nat.zero_add];exact hs);rwa [Nat.zero_add] at this)⟩
theorem Yw(hl:Nat.ble M.length (M0.length+D)=true:=by rfl)(h:Qo M M0 (QG S 0 M0):=by repeat (first | exact trivial | refine And.intro rfl ?_)):Cx S D M0 M:=iZ hl h
theorem Em(h:Ev P (.op op (AC T) M) (.val v M'))(hs:(cs.map (·.1)).contains i=true)(hag:Cx (DH cs (i+1)) D M0 M')(hk:YO P ops S D M0 cs (i+1) l ⟨N,upd T d v,M'⟩ K):YO P ops S D M0 cs i (⟨some d,op,ty,pos,af,none⟩::l) ⟨N,T,M⟩ K:=
 ⟨.inl ⟨hs,v,M',h,hag,hk.h⟩⟩
theorem Tq(h:Ev P (.op op (AC T) M) (.val v M'))(hs:(cs.map (·.1)).contains i=true)(hag:Cx (DH cs (i+1)) D M0 M')(hk:YO P ops S D M0 cs (i+1) l ⟨N,T,M'⟩ K):YO P ops S D M0 cs i (⟨none,op,ty,pos,af,none⟩::l) ⟨N,T,M⟩ K:=
 ⟨.inl ⟨hs,v,M',h,hag,hk.h⟩⟩
end
section
variable {P:Program} {op:Op} {e:Operand→AV} {m M M':Ag} {b n cap:Nat}
theorem ay{m:Ag}{r:Row}:(m++[r]).set m.length .dead=m++[.dead]:=by
 rw [List.set_append_right _ _ (Nat.le_refl _)];simp
theorem Zm{x:AB 8}(h:Ev P (.op op e m) (.val (.c (.sl b 0 n cap 1)) (m++[.row true (.a8 x)])))(hb:m.length=b)(hn:x.length=n)(hr:Xo m.length m=true):Ev P (.op op e m) (.val (.c (.bs x)) m):=by
 subst hb
 have h2:=qG h (M2:=m++[.dead]) (by simp) hn ay
 exact nE h2 hr rfl
theorem UX{x:List Int}(h:Ev P (.op op e m) (.val (.c (.sl b 0 n cap 1)) (m++[.row true (.ai x)])))(hb:m.length=b)(hn:x.length=n)(hr:Xo m.length m=true):Ev P (.op op e m) (.val (.c (.is x)) m):=by
 subst hb
 have h2:=po h (M2:=m++[.dead]) (by simp) hn ay
 exact nE h2 hr rfl
theorem tZ(h:Ev P (.op op e m) (.val (.c .nsl) M)):Ev P (.op op e m) (.val (.c (.bs [])) M):=
 Ev.opPost h fun ι _w _u hk hR hv=>⟨ι,⟨none,0,hv,Nat.le_refl _,.inl rfl⟩,Step.refl hR hk⟩
end
section
variable {P:Program} {k N:Nat} {ops:Array Oper} {d:Nat} {ty:TypeId} {pos:String} {af:Array Edge} {l0:List Oper} {T:Nat→AV} {M M':Ag} {K:St→Prop} {t t' el:TypeId} {x s a v:Operand}
theorem qL{y:List Int}{by' n m:Nat}{e2:TypeId}(hs:AC T s= .c .nsl)(hx:AC T x= .c (.is y))(hu:P.underlying t=some (.slice el))(hu2:P.underlying t'=some (.slice e2))(he:Bh P el=some (1,by'))(hl:y.length=n)(hb:n*by'≤140737488355328∧n≤9223372036854775807)(hn:M.length=m):
  CK P (AC T) M (.call { callee:= .builtin .append,args:= #[s,x],argTypes:= #[t,t'] })=some (.c (.sl m 0 n n 1),M++[.row true (.ai y)]):=by
 show BX P M t t' (AC T s) (AC T x)=_
 subst hn;subst hl
 rw [hs,hx]
 simp [BX,hu,E5,hu2,he,Ew,Arr.one,hb.1,hb.2]
theorem YJ{kk nn:Int}{aa:List Int}{u:List Nd}{by' m b0 len cap b c:Nat}{own:Bool}{e2:TypeId}(hs:AC T s= .c (.sl b0 0 len cap 3))(hms:M[b0]?=some (.row true (.an u)))(hx:AC T x= .c (.sl b 0 1 c 3))(hm:M[b]?=some (.row own (.ac [.val (.int .i64 kk),.val (.int .i64 nn),.is aa])))(hu:P.underlying t=some (.slice el))(hu2:P.underlying t'=some (.slice e2))(he:Bh P el=some (3,by'))
  (hlu:u.length=len) (hb:(len+1)*by'≤140737488355328∧len+1≤9223372036854775807∧by'≤140737488355328) (hn:M.length=m) (hM:M.set b0 .dead++[.row true (.an (u++[⟨kk,nn,aa⟩]))]=M'):
  Ev P (.op (.call { callee:= .builtin .append,args:= #[s,x],argTypes:= #[t,t'] }) (AC T) M) (.val (.c (.sl m 0 (len+1) (len+1) 3)) M'):=
 Ev.mem (by
  show BX P M t t' (AC T s) (AC T x)=_
  subst hn;subst hM;subst hlu
  rw [hs,hx]
  have hz:Arr.size (.ac [.val (.int .i64 kk),.val (.int .i64 nn),.is aa])=3:=rfl
  have hz2:Arr.size (.an u)=u.length*3:=by show 3*u.length=_;omega
  simp [BX,hu,E5,hu2,he,Ew,hm,hms,hz,hz2,F1,Arr.one,Cell.one,Value.oneCell',Arr.app,hb.1,hb.2.1,hb.2.2])
theorem Qj{b o:Nat}{y:List Bool}{q:Bool}(ha:AC T a= .c (.ptr b o))(hv:AC T v= .c (.val (.bool q)))(hm:M[b]?=some (.row true (.bl y)))(hs:DN P t=some 1)(ho:o<y.length)(hM:M.set b (.row true (.bl (y.set o q)))=M')
  (hk:WO P k ops l0 ⟨N,T,M'⟩ K):WO P k ops (⟨none,.store t a v,ty,pos,af,none⟩::l0) ⟨N,T,M⟩ K:=
 Oh ha hv hm rfl hs ho rfl hM hk
theorem em{l c:Operand}{by' n m:Nat}{ka kb:IntKind}(hu:P.underlying t=some (.slice el))(hx:AC T l= .c (.val (.int ka (n:Int))))(hy:AC T c= .c (.val (.int kb (n:Int))))(he:Bh P el=some (1,by'))(hrep:∀n,Iq P el n=some (.ac (List.replicate n (.val (.bool false)))))(h2:n*by'≤281474976710656)(h3:n≤9223372036854775807)(hn:M.length=m):
  Ev P (.op (.makeSlice t l c) (AC T) M) (.val (.c (.sl m 0 n n 1)) (M++[.row true (.bl (List.replicate n false))])):=by
 subst hn
 have h:CK P (AC T) M (.makeSlice t l c)=some (.c (.sl M.length 0 n n 1),M++[.row true (.ac (List.replicate n (.val (.bool false))))]):=by
  show FT P M t (AC T l) (AC T c)=_
  rw [hx,hy]
  simp only [FT,hu,FD,he]
  rw [if_pos ⟨by omega,by omega,by rw [←Int.natCast_mul];omega,by omega⟩]
  simp [hrep]
 refine Ev.opPost (Ev.mem h) fun ι w u hk hR hv=>⟨ι,hv,?_⟩
 have:=WW (k:=M.length) (b:=M.length) (y:= .bl (List.replicate n false)) (by simp) hR (show (M++[.row true (.ac (List.replicate n (.val (.bool false))))])[M.length]?=some (.row true (.ac (List.replicate n (.val (.bool false))))) by simp) rfl rfl (by simp [Arr.size]) (fun ι i v hi hr=>by
  have hi':i<n:=by simpa [Arr.size] using hi
  simp only [Arr.get,SG,List.getD_eq_getElem?_getD,List.getElem?_replicate,hi',if_true,Option.getD_some] at hr
  simp only [Arr.get,I6,List.getD_eq_getElem?_getD,List.getElem?_replicate,hi',if_true,Option.getD_some]
  exact hr) (fun h=>by cases h)
 rw [List.set_append_right _ _ (Nat.le_refl _)] at this
 simpa using this
end
theorem Se{ρ:Nat→Option Nat}{ι ι':Emb}(h:Same ρ ι ι'):∀ {args:List AV} {vs:List Value},CS ι args vs→CS ι' (args.map (AV.ren ρ)) vs
 |[],[],_=>trivial
 |[],_::_,h=>h.elim
 |_::_,[],h=>h.elim
 |_a::_l,_v::_vs,hr=>⟨AV.ren_rel h hr.1,Se h hr.2⟩
theorem Ev.relink{P:Program}{f:FuncId}{args args':List AV}{m m' mc' m2:Ag}{v v2:AV}(bs:List Nat)(hok:Sf 0 m bs=true)(ha:args.map (AV.ren (GJ 0 bs))=args')(hm:Dw 0 m bs=m')(h:Ev P (.call f args' m') (.val v mc'))(hv:(Fj bs m v mc').1=v2)(hm2:(Fj bs m v mc').2=m2):
  Ev P (.call f args m) (.val v2 m2):=by
 subst ha hm hv hm2
 refine Ev.semF fun ι w vs hR hargs=>?_
 have hst:=JX hok hR
 have hlen:(Dw 0 m bs).length=bs.length:=by simp [Dw]
 refine (sound h (EU 0 bs ι) w vs hst.r (Se (Ll 0 bs ι) hargs)).mono fun e' w' hq=>?_
 obtain ⟨u,ι',rfl,hv,hs⟩:=hq
 rw [hlen] at hs
 obtain ⟨h1,h2⟩:=UA hok hR hs hv
 exact ⟨u,_,rfl,h1,h2⟩
inductive jf:List AV→List AV→Prop
 |nil:jf [] []
 |same {x:AV} {l l':List AV} (h:jf l l'):jf (x::l) (x::l')
 |nilZ {l l':List AV} (h:jf l l'):jf (.c .nsl::l) (.c (.is [])::l')
 |nilB {l l':List AV} (h:jf l l'):jf (.c .nsl::l) (.c (.bs [])::l')
 |lb {y:AB 8} {l l':List AV} (h:jf l l'):jf (.c (.lb y)::l) (.c (.bs y)::l')
theorem jf.rel{ι:Emb}{l l':List AV}(h:jf l l'):∀ {vs:List Value},CS ι l vs→CS ι l' vs:=by
 induction h with
 |nil=>intro vs h;exact h
 |same _ ih=>intro vs h;cases vs with
  |nil=>exact h
  |cons v vs=>exact ⟨h.1,ih h.2⟩
 |nilZ _ ih=>intro vs h;cases vs with
  |nil=>exact h
  |cons v vs=>exact ⟨⟨none,0,h.1,Nat.le_refl _,.inl rfl⟩,ih h.2⟩
 |nilB _ ih=>intro vs h;cases vs with
  |nil=>exact h
  |cons v vs=>exact ⟨⟨none,0,h.1,Nat.le_refl _,.inl rfl⟩,ih h.2⟩
 |lb _ ih=>intro vs h;cases vs with
  |nil=>exact h
  |cons v vs=>exact ⟨h.1.1,ih h.2⟩
theorem Ev.weakA{P:Program}{f:FuncId}{args args':List AV}{m m':Ag}{v:AV}(ha:jf args args')(h:Ev P (.call f args' m) (.val v m')):Ev P (.call f args m) (.val v m'):=
 Ev.semF fun ι w vs hR hargs=>sound h ι w vs hR (ha.rel hargs)
theorem gt{ι:Emb}{m:Ag}{w:World}(hR:R ι m w){a:List Int}{v:Value}(hv:Cell.rel ι (.is a) v):
  ∃ι1:Emb,R ι1 (m++[.row false (.ai a)]) w∧ι1.tx=ι.tx∧ι.le ι1∧(∀b,b<m.length→ι1 b=ι b)∧Cell.rel ι1 (.sl m.length 0 a.length a.length 1) v:=by
 obtain ⟨p,cap,rfl,h1,h2⟩:=hv
 rcases h2 with h2 | ⟨c,o,rfl,⟨o',v',hb⟩,hr⟩
 ·refine ⟨ι,(Qw hR _ (Nat.le_refl _)).r,rfl,.refl _,fun _ _=>rfl,⟨p,cap,rfl,h1,h1,.inl h2⟩⟩
 ·obtain ⟨⟨cs,t,fr,e1,_⟩,_⟩:=hR.txt _ _ _ hb
  have hle:=hR.upd_le ⟨c,o,cap⟩
  refine ⟨ι.upd m.length ⟨c,o,cap⟩,⟨fun b hb=>?_,fun b l own x hl hm=>?_,fun b b' l l' own own' x x' hne hl hl' hm hm' ho=>?_,fun c1 Φ hc=>⟨(hR.stay c1 Φ (hc.to ι)).1,fun b l x hl hm=>?_⟩⟩,rfl,hle,fun b hb=>Emb.upd_ne O_,⟨_,cap,rfl,h1,h1,.inr ⟨_,Emb.upd_eq _ _ _,rfl,by simp⟩⟩⟩
  ·simp at hb
   rw [Emb.upd_ne O_];exact hR.dom b O_
  ·rcases Cd hm with ⟨hlt,hm⟩ | ⟨rfl,e⟩
   ·rw [Emb.upd_ne O_] at hl
    exact (hR.rows b l own x hl hm).mono hle
   ·cases e
    rw [Emb.upd_eq] at hl
    cases hl
    refine .of rfl ⟨cs,t,fr,e1,h1,fun j hj=>?_,fun h=>by cases h⟩
    obtain ⟨⟨cs',t',fr',f1,f2⟩,_⟩:=hR.txt _ _ _ (hr j hj)
    rw [e1] at f1;cases f1
    exact ⟨_,f2,rfl⟩
  ·have far:∀ {b:Nat} {l:Loc} {x:Arr},ι b=some l→m[b]?=some (.row true x)→l.c≠c:=fun h1 h2=>(hR.txt _ _ _ hb).2 _ _ _ h1 h2
   rcases Cd hm with ⟨hlt,hm⟩ | ⟨rfl,e⟩<;>rcases Cd hm' with ⟨hlt',hm'⟩ | ⟨rfl,e'⟩
   ·rw [Emb.upd_ne O_] at hl hl'
    exact hR.inj b b' l l' own own' x x' hne hl hl' hm hm' ho
   ·cases e'
    rw [Emb.upd_ne O_] at hl
    rw [Emb.upd_eq] at hl'
    cases hl'
    rcases ho with rfl | h
    ·exact far hl hm
    ·cases h
   ·cases e
    rw [Emb.upd_ne O_] at hl'
    rw [Emb.upd_eq] at hl
    cases hl
    rcases ho with h | rfl
    ·cases h
    ·exact fun e=>far hl' hm' e.symm
   ·exact absurd rfl hne
  ·rcases Cd hm with ⟨hlt,hm⟩ | ⟨rfl,e⟩
   ·rw [Emb.upd_ne O_] at hl
    exact (hR.stay c1 Φ (hc.to ι)).2 b l x hl hm
   ·cases e
theorem Ev.isRow{P:Program}{f:FuncId}{args args':List AV}{m M' M2:Ag}{v v2:AV}{a:List Int}(i:Nat)(ids:List Nat)(hi:args[i]?=some (.c (.is a)))(hi':args'[i]?=some (.c (.sl m.length 0 a.length a.length 1)))(hl:args'.length=args.length)(ho:∀j,j≠i→args'[j]?=args[j]?)
  (h:Ev P (.call f args' (m++[.row false (.ai a)])) (.val v M')) (hok:Sf m.length M' ids=true) (hids:(ids.all fun x=>decide (m.length<x))=true) (hv:v.ren (GJ m.length ids)=v2) (hM:Dw m.length M' ids=M2):Ev P (.call f args m) (.val v2 M2):=by
 subst hv hM
 refine Ev.semF fun ι w vs hR hargs=>?_
 have argI:∀ {l:List AV} {vs:List Value} {ι:Emb} {j:Nat} {x:AV},CS ι l vs→l[j]?=some x→ ∃u,vs[j]?=some u∧x.rel ι u:=by
  intro l
  induction l with
  |nil=>intro vs ι j x _ h;simp at h
  |cons y l ih=>intro vs ι j x hr h;cases vs with
   |nil=>exact hr.elim
   |cons u vs=>cases j with
    |zero=>simp at h;subst h;exact ⟨u,rfl,hr.1⟩
    |succ j=>obtain ⟨u',h1,h2⟩:=ih hr.2 (by simpa using h);exact ⟨u',by simpa using h1,h2⟩
 have argOf:∀ {l:List AV} {vs:List Value} {ι:Emb},l.length=vs.length→(∀(j:Nat) (x:AV) (u:Value),l[j]?=some x→vs[j]?=some u→x.rel ι u)→CS ι l vs:=by
  intro l
  induction l with
  |nil=>intro vs ι h _;cases vs with
   |nil=>trivial
   |cons=>simp at h
  |cons y l ih=>intro vs ι h hr;cases vs with
   |nil=>simp at h
   |cons u vs=>exact ⟨hr 0 y u rfl rfl,ih (by simpa using h) fun j x u hx hu=>hr (j+1) x u (by simpa using hx) (by simpa using hu)⟩
 have hvl:args.length=vs.toList.length:=by
  have:∀ {l:List AV} {vs:List Value} {ι:Emb},CS ι l vs→l.length=vs.length:=by
   intro l
   induction l with
   |nil=>intro vs ι h;cases vs with
    |nil=>rfl
    |cons=>exact h.elim
   |cons y l ih=>intro vs ι h;cases vs with
    |nil=>exact h.elim
    |cons u vs=>simp [ih h.2]
  exact this hargs
 obtain ⟨u0,hu0,hr0⟩:=argI hargs hi
 obtain ⟨ι1,hR1,htx,hle,hlo,hcell⟩:=gt hR (v:=u0) hr0
 have hargs1:CS ι1 args' vs.toList:=argOf (by rw [hl];exact hvl) fun j x u hx hu=>by
  by_cases hji:j=i
  ·subst hji
   rw [hi'] at hx
   rw [hu0] at hu
   cases hx;cases hu
   exact hcell
  ·rw [ho j hji] at hx
   obtain ⟨u',h1,h2⟩:=argI hargs hx
   rw [h1] at hu
   cases hu
   exact AV.rel_mono hle h2
 refine (sound h ι1 w vs hR1 hargs1).mono fun e' w' hq=>?_
 obtain ⟨u,ι',rfl,hu,hs⟩:=hq
 have hl1:(m++[Row.row false (.ai a)]).length=m.length+1:=by simp
 rw [hl1] at hs
 have hs2:=JX hok hs.r
 have hc:=(hs.low (Nat.le_succ _)).comp hs2
 have row1:∀ {b:Nat} {x:Arr},(m++[Row.row false (.ai a)])[b]?=some (.row true x)→b<m.length∧m[b]?=some (.row true x):=fun {b x} hb=>by
  rcases Cd hb with h1 | ⟨_,e⟩
  ·exact h1
  ·cases e
 have own1:∀ {c},Cs ι1 (m++[Row.row false (.ai a)]) c→Cs ι m c:=fun {c} ⟨b,l,x,h1,h2,h3⟩=>by
  obtain ⟨h4,h5⟩:=row1 h2
  exact ⟨b,l,x,by rw [←hlo b h4];exact h1,h5,h3⟩
 refine ⟨u,EU m.length ids ι',rfl,AV.ren_rel (Ll _ _ _) hu,⟨hc.r,⟨hc.trans.os,hc.trans.tape,hc.trans.output,hc.trans.size,fun c hcl hn=>hc.trans.keep c hcl fun h=>hn (own1 h),fun c h=>(hc.trans.fresh c h).imp id own1⟩,fun c o v h=>hc.tx c o v (by rw [htx];exact h),fun c o v h=>?_,fun b hb=>(hc.ext b hb).trans (hlo b hb),hc.len,fun b x hb hm=>hc.ro b x hb (by rw [List.getElem?_append_left hb];exact hm),fun b own x hb hm=>?_,fun b l own x hb h1 h2=>?_⟩⟩
 ·rcases hc.txn c o v h with h | h | h
  ·exact .inl (by rw [←htx];exact h)
  ·exact .inr (.inl h)
  ·exact .inr (.inr (own1 h))
 ·obtain ⟨x0,h0⟩:=hc.old b own x hb hm
  rw [List.getElem?_append_left hb] at h0
  exact ⟨x0,h0⟩
 ·have hk:m.length≤M'.length:=Nat.le_trans (Nat.le_succ _) hs.len
  obtain ⟨b',y,hy,rfl,hbb⟩:=Er hk h2
  rcases hbb with ⟨h3,_⟩ | ⟨_,hidb⟩
  ·omega
  ·have hgt:m.length<b':=by have:=List.all_eq_true.1 hids b' (List.mem_of_getElem? hidb);simpa using this
   have hemb:EU m.length ids ι' b=ι' b':=by unfold EU;dsimp only;rw [if_neg O_,hidb]
   rw [hemb] at h1
   rcases hs.news b' l own y O_ h1 hy with h4 | h4 | ⟨b0,l0,o0,x0,h5,_,h6,_⟩
   ·exact .inl h4
   ·exact .inr (.inl (own1 h4))
   ·exact (Hc (by simp;omega) h6).elim
def Zp(l:List UInt8):Nat:=l.foldl (fun v d=>v*10+(d.toNat-48)) 0
theorem cy(l:List UInt8)(d:UInt8):Zp (l++[d])=Zp l*10+(d.toNat-48):=by simp [Zp]
theorem Oi{i:Nat}(h:i<10):(UInt8.ofNat (48+i)).toNat=48+i:=by
 simp only [UInt8.toNat_ofNat']
 omega
theorem WQ(u:Nat):Zp (Lib.decDigits u)=u:=by
 induction u using Nat.strongRecOn with
 |ind u ih=>
  by_cases h:u<10
  ·rw [Lib.decDigits_one h]
   simp only [Zp,List.foldl_cons,List.foldl_nil,Oi h]
   omega
  ·rw [Lib.decDigits,dif_neg h,cy,ih (u/10) O_,Oi O_]
   omega
theorem Ox(u:Nat):∀d∈Lib.decDigits u,48≤d.toNat∧d.toNat≤57:=by
 induction u using Nat.strongRecOn with
 |ind u ih=>
  intro d hd
  by_cases h:u<10
  ·rw [Lib.decDigits_one h,List.mem_singleton] at hd
   subst hd
   rw [Oi h];omega
  ·rw [Lib.decDigits,dif_neg h,List.mem_append,List.mem_singleton] at hd
   rcases hd with hd | rfl
   ·exact ih (u/10) O_ d hd
   ·rw [Oi O_];omega
theorem eQ{u v:Nat}(h:Lib.decDigits u=Lib.decDigits v):u=v:=by rw [←WQ u,h,WQ]
theorem US(x:Int):(32:UInt8) ∉ Lib.itoa x:=by
 intro h
 unfold Lib.itoa at h
 split at h
 ·rcases List.mem_cons.1 h with h | h
  ·exact absurd h D_
  ·have:=Ox _ _ h
   revert this;decide
 ·have:=Ox _ _ h
  revert this;decide
theorem kh{x y:Int}(h:Lib.itoa x=Lib.itoa y):x=y:=by
 unfold Lib.itoa at h
 split at h<;>split at h
 ·have:=eQ (List.cons.inj h).2
  omega
 ·rename_i h1 h2
  have:=Ox y.toNat 45 (by rw [←h];exact List.mem_cons_self)
  exact absurd this D_
 ·rename_i h1 h2
  have:=Ox x.toNat 45 (by rw [h];exact List.mem_cons_self)
  exact absurd this D_
 ·have:=eQ h
  omega
theorem Zv{l m r s:List UInt8}(hl:(32:UInt8) ∉ l)(hm:(32:UInt8) ∉ m)(h:l++32::r=m++32::s):l=m∧r=s:=by
 induction l generalizing m with
 |nil=>
  cases m with
  |nil=>exact ⟨rfl,(List.cons.inj h).2⟩
  |cons y m=>exact absurd (List.cons.inj h).1 (fun e=>hm (by rw [e];exact List.mem_cons_self))
 |cons x l ih=>
  cases m with
  |nil=>exact absurd (List.cons.inj h).1 (fun e=>hl (by rw [←e];exact List.mem_cons_self))
  |cons y m=>
   obtain ⟨h1,h2⟩:=List.cons.inj h
   obtain ⟨h3,h4⟩:=ih (m:=m) (fun h=>hl (List.mem_cons_of_mem _ h)) (fun h=>hm (List.mem_cons_of_mem _ h)) h2
   exact ⟨by rw [h1,h3],h4⟩
theorem Su:∀ {l m:List Int},DM l=DM m→l=m
 |[],[],_=>rfl
 |[],y::m,h=>by simp [DM] at h
 |x::l,[],h=>by simp [DM] at h
 |x::l,y::m,h=>by
  obtain ⟨h1,h2⟩:=Zv (US x) (US y) h
  rw [kh h1,Su h2]
def ZE(x:Nd):Value:= .string ⟨(DM (x.k::x.n::x.a)).toArray⟩
theorem bR{x y:Nd}(h:ZE x=ZE y):x=y:=by
 unfold ZE at h
 have h1:(DM (x.k::x.n::x.a)).toArray=(DM (y.k::y.n::y.a)).toArray:=congrArg ByteArray.data (Value.string.inj h)
 have h2:=Su (List.toArray_inj h1)
 cases x;cases y
 simp_all
def Bf(L:List Nd):List (Value×C1):=(List.range L.length).map fun i=>(ZE (Al L i),.val (.int .i64 (i:Int)))
theorem Jv{L:List Nd}{x:Nd}{i:Nat}(h:i<L.length):Al (L++[x]) i=Al L i:=by
 unfold Al
 rw [G4,if_pos h]
theorem LK(L:List Nd)(x:Nd):Al (L++[x]) L.length=x:=by
 unfold Al
 rw [G4,if_neg O_]
 simp
theorem V7(L:List Nd)(x:Nd):Bf (L++[x])=Bf L++[(ZE x,.val (.int .i64 (L.length:Int)))]:=by
 unfold Bf
 rw [List.length_append,List.length_singleton,List.range_succ,List.map_append,List.map_singleton,LK]
 congr 1
 apply List.map_congr_left
 intro i hi
 rw [Jv (List.mem_range.1 hi)]
def DJ(k:Int):Bool:=(decide (k=1) || decide (k=2)) || decide (k=4)
def Cr(k:Int):Nat:=if k=4∨k=5∨k=6∨k=8 then 1 else if k=7 then 2 else 0
def FV(k:Int):Nat:=if k=1∨k=2 then 0 else if k=4∨k=5 then 1 else 400
def hasB(m:Nat)(a:List Int):Bool:=a.all fun i=>decide (0≤i)&&decide (i<(m:Int))
def Bz(m:Nat)(k n:Int)(a:List Int):Nat:=
 if k<1∨9<k then 6 else if n<0∨(0<n∧DJ k=false) then 1 else if a.length<Cr k∨FV k<a.length then 2 else if hasB m a=false then 8 else 0
def Uh(x y:Nd):Bool:=((x.k==y.k)&&(x.n==y.n))&&decide (x.a=y.a)
theorem QY{x y:Nd}:Uh x y=true↔x=y:=by
 cases x;cases y
 simp [Uh,and_assoc]
def GV(L:List Nd)(x:Nd):Option Nat:=L.findIdx? (Uh · x)
def mk(L:List Nd)(k n:Int)(a:List Int):List Nd×Nat×Nat:=
 if Bz L.length k n a≠0 then (L,0,Bz L.length k n a)
 else match GV L ⟨k,n,a⟩ with
  |some i=>(L,i,0)
  |none=>if 1048576≤L.length then (L,0,7) else (L++[⟨k,n,a⟩],L.length,0)
structure EB(L:List Nd):Prop where
 dist:∀i j,i<L.length→j<L.length→Al L i=Al L j→i=j
 ok:∀i,i<L.length→Bz i (Al L i).k (Al L i).n (Al L i).a=0
 small:∀i,i<L.length→(Al L i).n≤9223372036854775807
theorem EB.nil:EB []:=⟨fun i j h=>by simp at h,fun i h=>by simp at h,fun i h=>by simp at h⟩
theorem P4{L:List Nd}{x:Nd}{i:Nat}(h:GV L x=some i):i<L.length∧Al L i=x:=by
 unfold GV at h
 obtain ⟨hi,h1,_⟩:=List.findIdx?_eq_some_iff_getElem.1 h
 refine ⟨hi,?_⟩
 have:=QY.1 h1
 unfold Al
 rw [List.getD_eq_getElem?_getD,List.getElem?_eq_getElem hi]
 exact this
theorem Mz{L:List Nd}{x:Nd}(h:GV L x=none){i:Nat}(hi:i<L.length):Al L i≠x:=by
 unfold GV at h
 rw [List.findIdx?_eq_none_iff] at h
 intro e
 have:=h (Al L i) (by
  unfold Al
  rw [List.getD_eq_getElem?_getD,List.getElem?_eq_getElem hi]
  exact List.getElem_mem hi)
 rw [e,show Uh x x=true from QY.2 rfl] at this
 cases this
theorem EB.snoc{L:List Nd}(h:EB L){k n:Int}{a:List Int}(he:Bz L.length k n a=0)(hn:n≤9223372036854775807)(hf:GV L ⟨k,n,a⟩=none):EB (L++[⟨k,n,a⟩]):=by
 have last:∀i,i<(L++[(⟨k,n,a⟩:Nd)]).length→i=L.length∨i<L.length:=fun i hi=>by simp at hi;omega
 refine ⟨fun i j hi hj e=>?_,fun i hi=>?_,fun i hi=>?_⟩
 ·rcases last i hi with rfl | hi<;>rcases last j hj with rfl | hj
  ·rfl
  ·rw [LK,Jv hj] at e;exact absurd e.symm (Mz hf hj)
  ·rw [LK,Jv hi] at e;exact absurd e (Mz hf hi)
  ·rw [Jv hi,Jv hj] at e;exact h.dist i j hi hj e
 ·rcases last i hi with rfl | hi
  ·rw [LK];exact he
  ·rw [Jv hi];exact h.ok i hi
 ·rcases last i hi with rfl | hi
  ·rw [LK];exact hn
  ·rw [Jv hi];exact h.small i hi
theorem EB.keyed{L:List Nd}(h:EB L):Keyed .string (Bf L):=by
 refine ⟨fun p hp=>?_,?_⟩
 ·obtain ⟨i,_,rfl⟩:=List.mem_map.1 hp
  exact trivial
 ·unfold Bf
  rw [List.pairwise_map]
  refine List.Pairwise.imp_of_mem ?_ List.pairwise_lt_range
  intro i j hi hj hlt e
  have:=h.dist i j (List.mem_range.1 hi) (List.mem_range.1 hj) (bR e)
  omega
theorem il{L:List Nd}{i:Nat}(hi:i<L.length):(ZE (Al L i),C1.val (.int .i64 (i:Int)))∈Bf L:=List.mem_map.2 ⟨i,List.mem_range.2 hi,rfl⟩
theorem O2{L:List Nd}{x:Nd}(hf:GV L x=none):∀p∈Bf L,p.1≠ZE x:=by
 intro p hp e
 obtain ⟨i,hi,rfl⟩:=List.mem_map.1 hp
 exact Mz hf (List.mem_range.1 hi) (bR e)
structure uD(i:Nat)(x:Nd):Prop where
 kind:1≤x.k∧x.k≤9
 num:0≤x.n∧(0<x.n→DJ x.k=true)
 len:Cr x.k≤x.a.length∧x.a.length≤FV x.k
 args:∀y∈x.a,0≤y∧y<(i:Int)
theorem IK{m:Nat}{k n:Int}{a:List Int}(h:Bz m k n a=0):uD m ⟨k,n,a⟩:=by
 unfold Bz at h
 split at h
 ·cases h
 ·split at h
  ·cases h
  ·split at h
   ·cases h
   ·split at h
    ·cases h
    ·rename_i h1 h2 h3 h4
     simp only [not_or,not_and,Int.not_lt,Bool.not_eq_false] at h1 h2 h4
     rw [not_or] at h3
     refine ⟨⟨h1.1,h1.2⟩,⟨h2.1,fun hp=>h2.2 hp⟩,⟨Nat.le_of_not_lt h3.1,Nat.le_of_not_lt h3.2⟩,fun y hy=>?_⟩
     unfold hasB at h4
     simp only [List.all_eq_true,Bool.and_eq_true,decide_eq_true_eq] at h4
     exact h4 y hy
theorem EB.nd{L:List Nd}(h:EB L){i:Nat}(hi:i<L.length):uD i (Al L i):=IK (h.ok i hi)
theorem Dj(k:Int):FV k≤400:=by
 unfold FV
 split
 ·omega
 ·split<;>omega
theorem ly(w:World)(o:Obj)(h:o= .cells #[] 3):(w.alloc o).ownsRow w.heap.size 3 1 (.slice (some ⟨w.heap.size,0,none⟩) 0 0) 0 []:=by
 subst h
 exact ⟨rfl,.inr ⟨w.heap.size,0,#[],rfl,Nat.le_refl _,heap_alloc_new w _,Nat.le_refl _,by unfold maxLen;omega,rfl,rfl⟩⟩
theorem iS(l:List Int)(v:Value)(w:World)(hv:(v= .slice none 0 0∧l=[])∨ ∃ad cap,v= .slice (some ad) l.length cap∧ ∀j u,(l.map (Value.int .i64))[j]?=some u→w.cell? (ad.add j)=some u)(hlen:l.length≤1000):
  Calls prog 43 #[v] w fun e w'=> ∃v',e= .returned v'∧w'.ownsRow w.heap.size 3 1 v' l.length (l.map (Value.int .i64))∧Below w.heap.size w w':=by
 have Hlen:=hid hlen
 clear hlen
 have q41:∀(w:World) (a:Option Addr) (n c n' c':Nat),(binOp .eql 41 (.slice a n c) (.slice none n' c')).run prog w= .ok (.bool a.isNone) w:=fun w a n c n' c'=>Lib.run_eql_slice_nil w _ _ a n c n' c' underlying41
 rcases hv with ⟨rfl,rfl⟩ | ⟨ad,cap,rfl,hc⟩
 ·go_enter func43,ntmps43
  go_wp2
  go_ret
  exact ⟨_,rfl,World.ownsRow_nil _ _ _ _,Below.refl _ _⟩
 ·have Hv:=hid hc
  clear hc
  go_enter func43,ntmps43
  go_wp2_with (at_builtin;refine OB _ rfl (.tmp 5) (.tmp 6) 41 rfl w.heap.size underlying41 fa (.slice (some ⟨w.heap.size,0,none⟩) 0 0) 0 [] l rfl (ly w _ rfl) _ rfl ?_ (by have:=Hlen.out;omega) (by simp) ?_)
  ·exact .inr ⟨ad,cap,rfl,fun j u hj=>by have h3:=Hv.out j u hj;exact (World.cell?_of_block (w:=w) (by rw [F4,if_neg (by have:=World.block_lt_of_cell? w _ h3;omega)])).trans h3⟩
  intro v1 w1 hown1 hgrow1
  have hB1:Below w.heap.size w w1:=((Below.refl _ _).alloc (Nat.le_refl _) _).grown hgrow1 (by simp) (fun k hk=>by simp [Value.ownBlock] at hk;omega)
  have HO:=hid hown1
  have HB:=hid hB1
  clear hown1 hgrow1 hB1
  go_wp2
  go_ret
  exact ⟨_,rfl,HO.out,HB.out⟩
theorem UU{ι:Emb}{M:Ag}{w w':World}(hR:R ι M w)(hb:Below w.heap.size w w'):Step M.length ι M w ι M w':=
 Step.make hR hR.dom (fun b l own x h1 h2=>(hR.rows b l own x h1 h2).heap (hb.block _ (hR.lt h1 h2)) (.refl _)) hR.inj ⟨hb.os,hb.tape,hb.output,hb.size,fun c hc _=>hb.block c hc,fun _ h=> .inr h⟩ rfl (fun _ _=>rfl) (Nat.le_refl _) (fun _ _ _ h=>h) (fun _ _ x _ h=>⟨x,h⟩) (fun _b _l _own _x hb _h1 h2=>(Hc hb h2).elim)
theorem kR{ι:Emb}{M:Ag}{w w':World}(hR:R ι M w)(hb:Below w.heap.size w w'){v:Value}{l:List Int}(ho:w'.ownsRow w.heap.size 3 1 v l.length (l.map (Value.int .i64))):∃ι',Cell.rel ι' (.is l) v∧Step M.length ι M w ι' M w':=by
 have hst:=UU hR hb
 rcases ho.2 with ⟨rfl,h0⟩ | ⟨g,cap,cur,rfl,hg,hh,hc,hm,hs,ht⟩
 ·exact ⟨ι,⟨none,0,by rw [h0],by omega,.inl rfl⟩,hst⟩
 ·have hle:ι.le ⟨ι.f,fun c o u=>ι.tx c o u∨(c=g∧cur[o]?=some u)⟩:=⟨fun _ _ h=>h,fun _ _ _ h=> .inl h⟩
  refine ⟨⟨ι.f,fun c o u=>ι.tx c o u∨(c=g∧cur[o]?=some u)⟩,?_,⟨⟨hst.r.dom,fun b l own x h1 h2=>(hst.r.rows b l own x h1 h2).mono hle,hst.r.inj,fun c Φ hc=>?_⟩,⟨hst.trans.os,hst.trans.tape,hst.trans.output,hst.trans.size,hst.trans.keep,hst.trans.fresh⟩,fun _ _ _ h=> .inl h,fun c o u hc=>?_,fun _ _=>rfl,Nat.le_refl _,fun _ _ _ h=>h,fun _ _ x _ h=>⟨x,h⟩,fun b l own x hb h1 h2=>(Hc hb h2).elim⟩⟩
  ·refine ⟨some ⟨g,0,none⟩,cap,rfl,hc,?_⟩
   have cell:∀i,i<l.length→cur[i]?=some (.int .i64 (l.getD i 0)):=fun i hi=>by
    have h1:(cur.toList.take (l.length*1))[i]?=(l.map (Value.int .i64))[i]?:=by rw [ht]
    rw [List.getElem?_take,if_pos O_,List.getElem?_map,List.getElem?_eq_getElem hi,Option.map_some,Array.getElem?_toList] at h1
    rw [h1,List.getD_eq_getElem?_getD,List.getElem?_eq_getElem hi]
    rfl
   by_cases h0:cap=0
   ·exact .inl h0
   ·have hcur:0<cur.size:=by omega
    refine .inr ⟨g,0,rfl,⟨0,cur[0],.inr ⟨rfl,by simp [hcur]⟩⟩,fun i hi=> .inr ⟨rfl,?_⟩⟩
    rw [Nat.zero_add];exact cell i hi
  ·cases hc with
   |base kb=>exact hst.r.stay c Φ (.base kb)
   |tx hc=>
    rcases hc with hc | ⟨rfl,h2⟩
    ·exact hst.r.stay c _ (.tx hc)
    ·exact ⟨⟨_,hh,cur,3,(0,0),rfl,h2⟩,fun b l x h1 h3 e=>by have:=hR.lt h1 h3;omega⟩
  ·rcases hc with hc | ⟨rfl,_⟩
   ·exact .inl hc
   ·exact .inr (.inl hg)
theorem Zh{ι:Emb}{M:Ag}{w:World}(hR:R ι M w){b n cap:Nat}{own:Bool}{l:List Int}(hm:M[b]?=some (.row own (.ai l)))(hl:l.length=n){v:Value}(hv:Cell.rel ι (.sl b 0 n cap 1) v):
  (v= .slice none 0 0∧l=[])∨ ∃ad cap,v= .slice (some ad) l.length cap∧ ∀j u,(l.map (Value.int .i64))[j]?=some u→w.cell? (ad.add j)=some u:=by
 obtain ⟨p,cap',rfl,_,h2,h3⟩:=hv
 subst hl
 rcases h3 with rfl | ⟨lc,hlc,rfl,_⟩
 ·have:l.length=0:=by omega
  obtain rfl:l=[]:=List.eq_nil_of_length_eq_zero this
  cases p with
  |none=>exact .inl ⟨rfl,rfl⟩
  |some ad=>exact .inr ⟨ad,0,rfl,fun j u h=>by simp at h⟩
 ·refine .inr ⟨_,cap',rfl,fun j u hj=>?_⟩
  obtain ⟨cs,t,fr,k1,k2,k3,k4⟩:=hR.cells hlc hm rfl
  have hj':j<l.length:=by have:=(List.getElem?_eq_some_iff.1 hj).1;simpa using this
  obtain ⟨u',e1,e2⟩:=k3 j hj'
  obtain rfl:u'= .int .i64 (AX l j):=e2
  rw [FI,cell_of k1,Nat.add_zero,e1]
  rw [List.getElem?_map,List.getElem?_eq_getElem hj'] at hj
  cases hj
  simp [AX,hj']
theorem mG{ι:Emb}{M:Ag}{w:World}(hR:R ι M w):Lib.TabIs prog w "internal/strconv.uint64pow10" .u64 Lib.pow10Tab:=
 uj K_ (hR.stay 0 dM (.base rfl)).1
theorem cK(k n:Int)(a:List Int)(m cap:Nat)(hm:a.length=m)(hlen:m≤1000)(hr:∀x∈k::n::a,-9223372036854775808≤x∧x≤9223372036854775807):
  Ev prog (.call 42 [.c (.val (.int .i64 k)),.c (.val (.int .i64 n)),.c (.sl 0 0 m cap 1)] [.row false (.ai a)]) (.val (.c (.val (ZE ⟨k,n,a⟩))) [.row false (.ai a)]):=
 Ev.semF fun ι w vs hR hargs=>by
  match hvs:vs.toList,hargs with
  |[v1,v2,v3],hargs=>
   obtain ⟨h1,h2,h3,_⟩:=hargs
   obtain rfl:v1= .int .i64 k:=h1
   obtain rfl:v2= .int .i64 n:=h2
   have hv:vs= #[.int .i64 k,.int .i64 n,v3]:=by rw [←Array.toList_inj,hvs]
   subst hv
   refine (pU k n a v3 w (Zh hR (b:=0) rfl hm h3) O_ hr (mG hR)).mono fun e w' ⟨he,hb⟩=>?_
   exact ⟨_,ι,he,rfl,UU hR hb⟩
theorem ZB(a:List Int)(m cap:Nat)(hm:a.length=m)(hlen:m≤1000):Ev prog (.call 43 [.c (.sl 0 0 m cap 1)] [.row false (.ai a)]) (.val (.c (.is a)) [.row false (.ai a)]):=
 Ev.semF fun ι w vs hR hargs=>by
  match hvs:vs.toList,hargs with
  |[v3],hargs=>
   obtain ⟨h3,_⟩:=hargs
   have hv:vs= #[v3]:=by rw [←Array.toList_inj,hvs]
   subst hv
   refine (iS a v3 w (Zh hR (b:=0) rfl hm h3) O_).mono fun e w' ⟨v',he,ho,hb⟩=>?_
   obtain ⟨ι',h1,h2⟩:=kR hR hb ho
   exact ⟨v',ι',he,h1,h2⟩
theorem bnA{p:Prop} [Decidable p] (h:p):((!decide p)==false)=true:=by simp [h]
theorem bnB{p:Prop} [Decidable p] (h:¬p):((!decide p)==true)=true:=by simp [h]
theorem bnC{p:Prop} [Decidable p] (h:p):((!decide p)==true)=false:=by simp [h]
theorem bnD{p:Prop} [Decidable p] (h:¬p):((!decide p)==false)=false:=by simp [h]
theorem Ci{p:Prop}(h:p:=by first | rfl | exact Gl rfl rfl rfl rfl | exact Gl rfl rfl rfl (wQ O_) | exact Gl rfl rfl rfl (xh O_) | exact Gl rfl rfl rfl (rM O_) | exact Gl rfl rfl rfl (rf O_) | exact Zw rfl rfl rfl | exact Gl rfl rfl rfl D_ | exact Gl rfl rfl rfl (bnA O_) | exact Gl rfl rfl rfl (bnB O_) | exact Gl rfl rfl rfl (bnC O_) | exact Gl rfl rfl rfl (bnD O_) | fail):p:=h
theorem Lw(b o:Nat):BK prog 75 (.c (.ptr b o)) 0=some (.c (.ptr b (o+0))):=by kernel_rfl
theorem Qu(b o:Nat):BK prog 75 (.c (.ptr b o)) 1=some (.c (.ptr b (o+1))):=by kernel_rfl
theorem rv:DN prog 91=some 4:=by kernel_rfl
theorem qt(b o:Nat):BK prog 91 (.c (.ptr b o)) 0=some (.c (.ptr b (o+0))):=by kernel_rfl
theorem pZ(b o:Nat):BK prog 91 (.c (.ptr b o)) 1=some (.c (.ptr b (o+1))):=by kernel_rfl
theorem YH(b o:Nat):BK prog 91 (.c (.ptr b o)) 2=some (.c (.ptr b (o+2))):=by kernel_rfl
theorem qX(b o:Nat):BK prog 91 (.c (.ptr b o)) 3=some (.c (.ptr b (o+3))):=by kernel_rfl
abbrev A6(f:Nat):Prop:=(prog.funcs[f]?).any (fun fn=>fn.body.isSome&& !(fn.name== "runtime.NumGoroutine"))=true
theorem A9{f:Nat}{x:Func}(h:prog.funcs[f]?=some x)(k:(x.body.isSome&& !(x.name== "runtime.NumGoroutine"))=true:=by rfl):A6 f:=by unfold A6;rw [h];exact k
theorem rW:A6 43:=A9 func43
theorem yQ:A6 68:=A9 func68
section
variable {P:Program} {T:Nat→AV} {M M':Ag} {t t':TypeId} {x y z:Operand} {a b:Int}
theorem dk(hx:AC T x= .c (.val (.int .i64 a)))(hy:AC T y= .c (.val (.int .i64 b))):AI P (AC T) M (.binOp .eql t x y t')=some (.c (.val (.bool (decide (a=b))))):=tS hx hy
theorem UB(hx:AC T x= .c (.val (.int .i64 a)))(hy:AC T y= .c (.val (.int .i64 b))):AI P (AC T) M (.binOp .neq t x y t')=some (.c (.val (.bool (!decide (a=b))))):=ui hx hy
theorem xL{op:Op}{e:Operand→AV}{m:Ag}{v:AV}(h:Ev P (.op op e m) (.val v (m++[]))):Ev P (.op op e m) (.val v m):=by rwa [List.append_nil] at h
theorem Wx{b o:Nat}{c:Cell}{u w:Arr}(ha:AC T x= .c (.ptr b o))(hv:AC T y= .c c)(hm:M[b]?=some (.row true u))(h1:c.one=true)(hs:DN P t=some 1)(ho:o<u.size)(hz:u.set o c=some w)(hM:M.set b (.row true w)=M'):
  Ev P (.op (.store t x y) (AC T) M) (.val (.c .any) M'):=
 Ev.mem (by simp [CK,H4,ha,hv,hm,h1,hs,ho,hz,hM])
end
section
variable {P:Program} {T:Nat→AV} {M:Ag} {x y z:Operand}
theorem W1{t:TypeId}{ps:Array (Nat×Operand)}{l:List (Nat×AV)}{v:AV}(hl:ps.toList.map (fun p=>(p.1,AC T p.2))=l)(h:Bo P t l=some v):AI P (AC T) M (.build t ps)=some v:=by subst hl;exact h
theorem wd{t:TypeId}{n:Nat}{ps:Array (Nat×Operand)}{l:List (Nat×AV)}{r:AV×Ag}(hl:ps.toList.map (fun p=>(p.1,AC T p.2))=l)(h:Ca P M t n l=some r):CK P (AC T) M (.buildSlice t n ps)=some r:=by subst hl;exact h
end
section
variable {T:Nat→AV} {M:Ag} {x y z:Operand}
theorem yJ(k n:Int)(a:List Int):Bo prog 58 [(0,.c (.val (.int .i64 k))),(1,.c (.val (.int .i64 n))),(2,.c (.is a))]=some (.agg (.ac [.val (.int .i64 k),.val (.int .i64 n),.is a])):=by kernel_rfl
theorem zD(M:Ag)(k n:Int)(a:List Int):Ca prog M 53 1 [(0,.agg (.ac [.val (.int .i64 k),.val (.int .i64 n),.is a]))]=some (.c (.sl M.length 0 1 1 3),M++[.row true (.ac [.val (.int .i64 k),.val (.int .i64 n),.is a])]):=by kernel_rfl
theorem wu(b:Nat):Bo prog 75 [(1,.c (.mp b))]=some (.agg (.ac [.nsl,.mp b])):=by kernel_rfl
theorem TK{k n:Int}{a:List Int}(hx:AC T x= .c (.val (.int .i64 k)))(hy:AC T y= .c (.val (.int .i64 n)))(hz:AC T z= .c (.is a)):
  AI prog (AC T) M (.build 58 #[(0,x),(1,y),(2,z)])=some (.agg (.ac [.val (.int .i64 k),.val (.int .i64 n),.is a])):=
 W1 (by simp [hx,hy,hz]) (yJ k n a)
theorem cV{k n:Int}{a:List Int}{m:Nat}(hx:AC T x= .agg (.ac [.val (.int .i64 k),.val (.int .i64 n),.is a]))(hm:M.length=m):
  CK prog (AC T) M (.buildSlice 53 1 #[(0,x)])=some (.c (.sl m 0 1 1 3),M++[.row true (.ac [.val (.int .i64 k),.val (.int .i64 n),.is a])]):=by
 subst hm
 exact wd (by simp [hx]) (zD M k n a)
theorem oh{b:Nat}(hx:AC T x= .c (.mp b)):AI prog (AC T) M (.build 75 #[(1,x)])=some (.agg (.ac [.nsl,.mp b])):=
 W1 (by simp [hx]) (wu b)
end
theorem kL{P:Program}{k N:Nat}{c:Code}{T:Nat→AV}{M M':Ag}{Φ:Ex→St→Prop}(b i sz:Nat)(x:Arr){l:List Cell}(_hx:x.size=0)(hb:M[b]?=some (.row true (.ac l)))(hi:l[i]?=some .nsl)(hM:M.set b (.row true (.ac (l.set i (.sl M.length 0 0 0 sz))))++[.row true x]=M')(h:WC P k c ⟨N,T,M'⟩ Φ):WC P k c ⟨N,T,M⟩ Φ:=by
 subst hM
 obtain ⟨e,r,h1,h2⟩:=h.h
 refine ⟨⟨e,r,Ev.weak (fun ι w a hk hR hf=>⟨ι,hf.mono (.refl ι) _,?_⟩) h1,h2⟩⟩
 have hst:=WW (k:=k) (y:= .ac (l.set i (.sl M.length 0 0 0 sz))) hk hR hb rfl rfl (by simp [Arr.size]) (fun ι j v hj hv=>by
  simp only [Arr.get,SG,List.getD_eq_getElem?_getD,List.getElem?_set] at hv ⊢
  by_cases hij:i=j
  ·subst hij
   have hj':i<l.length:=hj
   rw [if_pos rfl,if_pos hj']
   rw [hi] at hv
   obtain rfl:v= .slice none 0 0:=hv
   exact ⟨none,0,rfl,Nat.le_refl _,Nat.le_refl _,.inl rfl⟩
  ·rw [if_neg hij];exact hv) (fun h=>by cases h)
 have hl:(M.set b (.row true (.ac (l.set i (.sl M.length 0 0 0 sz))))).length=M.length:=by simp
 exact hst.comp (aZ (by rw [hl];exact hk) hst.r)
theorem B6:A5 prog 3=some false:=by kernel_rfl
theorem OF:DN prog 3=some 1:=by kernel_rfl
theorem bm:Bh prog 3=some (1,8):=by kernel_rfl
theorem WK:A5 prog 4=some false:=by kernel_rfl
theorem lC:DN prog 4=some 1:=by kernel_rfl
theorem yI:Bh prog 4=some (1,1):=by kernel_rfl
theorem bB:A5 prog 5=some false:=by kernel_rfl
theorem CE:DN prog 5=some 1:=by kernel_rfl
theorem wE(n:Nat):Iq prog 5 n=some (.a8 (Am n)):=by kernel_rfl
theorem HL:Bh prog 5=some (1,1):=by kernel_rfl
theorem js:A5 prog 23=some false:=by kernel_rfl
theorem aj:DN prog 23=some 1:=by kernel_rfl
theorem oA(n:Nat):Iq prog 23 n=some (.ac (List.replicate n .nsl)):=by kernel_rfl
theorem ep:Bh prog 23=some (1,24):=by kernel_rfl
theorem K8:A5 prog 37=some true:=by kernel_rfl
theorem KW:DN prog 37=some 32:=by kernel_rfl
theorem WV(m:Ag):Cf prog m 37=some (.c (.ptr m.length 0),m++[.row true (.a8 (Am 32))]):=by kernel_rfl
theorem xF:(prog.info? 37).bind (fun i=>i.zero.map (·.cells.size))=some 32:=by kernel_rfl
theorem fC:(prog.info? 37).bind (fun i=>i.zero.map (fun z=>Bu z.cells.toList))=some (.a8 (Am 32)):=by kernel_rfl
theorem Ny:A5 prog 41=some false:=by kernel_rfl
theorem ww:DN prog 41=some 1:=by kernel_rfl
theorem tf:A5 prog 42=some false:=by kernel_rfl
theorem Xi:A5 prog 53=some false:=by kernel_rfl
theorem kM:DN prog 53=some 1:=by kernel_rfl
theorem QW(b o:Nat):BK prog 55 (.c (.ptr b o)) 0=some (.c (.ptr b (o+0))):=by kernel_rfl
theorem MJ:A5 prog 58=some true:=by kernel_rfl
theorem NI:DN prog 58=some 3:=by kernel_rfl
theorem fx(m:Ag):Cf prog m 58=some (.c (.ptr m.length 0),m++[.row true (.ac [.val (.int .i64 0),.val (.int .i64 0),.nsl])]):=by kernel_rfl
theorem eq(b o:Nat):BK prog 58 (.c (.ptr b o)) 0=some (.c (.ptr b (o+0))):=by kernel_rfl
theorem fF(b o:Nat):BK prog 58 (.c (.ptr b o)) 1=some (.c (.ptr b (o+1))):=by kernel_rfl
theorem XF(b o:Nat):BK prog 58 (.c (.ptr b o)) 2=some (.c (.ptr b (o+2))):=by kernel_rfl
theorem lm:Bh prog 58=some (3,40):=by kernel_rfl
theorem Ln:A5 prog 70=some false:=by kernel_rfl
theorem BN:DN prog 70=some 1:=by kernel_rfl
theorem wm:Bh prog 70=some (1,8):=by kernel_rfl
theorem Tr:A5 prog 73=some false:=by kernel_rfl
theorem oP:A5 prog 85=some false:=by kernel_rfl
theorem TI(b o:Nat):BK prog 87 (.c (.ptr b o)) 0=some (.c (.ptr b (o+0))):=by kernel_rfl
theorem gM(b o:Nat):BK prog 87 (.c (.ptr b o)) 1=some (.c (.ptr b (o+1))):=by kernel_rfl
theorem dR:A5 prog 98=some true:=by kernel_rfl
theorem nk:DN prog 98=some 12:=by kernel_rfl
theorem xg:(prog.info? 98).bind (fun i=>i.zero.map (fun z=>Bu z.cells.toList))=some (.a8 (Am 12)):=by kernel_rfl
theorem TD:A5 prog 105=some true:=by kernel_rfl
theorem Ud:DN prog 105=some 64:=by kernel_rfl
theorem tk(m:Ag):Cf prog m 105=some (.c (.ptr m.length 0),m++[.row true (.a8 (Am 64))]):=by kernel_rfl
theorem YZ:A5 prog 106=some false:=by kernel_rfl
theorem CW:DN prog 106=some 1:=by kernel_rfl
theorem tC:Bh prog 106=some (1,4):=by kernel_rfl
theorem qS:A5 prog 107=some true:=by kernel_rfl
theorem Yb:DN prog 107=some 8:=by kernel_rfl
theorem kG(m:Ag):Cf prog m 107=some (.c (.ptr m.length 0),m++[.row true (.a32 (Nc 8))]):=by kernel_rfl
theorem jq:(prog.info? 107).bind (fun i=>i.zero.map (·.cells.size))=some 8:=by kernel_rfl
theorem uu(m:Ag):Cf prog m 111=some (.c (.ptr m.length 0),m++[.row true (.a32 (Nc 64))]):=by kernel_rfl
theorem L0:A5 prog 121=some true:=by kernel_rfl
theorem NU:DN prog 121=some 16:=by kernel_rfl
theorem cN(m:Ag):Cf prog m 121=some (.c (.ptr m.length 0),m++[.row true (.a8 (Am 16))]):=by kernel_rfl
theorem vT:DN prog 127=some 4:=by kernel_rfl
theorem lD(m:Ag):Cf prog m 127=some (.c (.ptr m.length 0),m++[.row true (.a64 (Af 4))]):=by kernel_rfl
theorem tm:(prog.info? 127).bind (fun i=>i.zero.map (·.cells.size))=some 4:=by kernel_rfl
theorem pP:A5 prog 153=some true:=by kernel_rfl
theorem YR:DN prog 153=some 8:=by kernel_rfl
theorem kf(m:Ag):Cf prog m 153=some (.c (.ptr m.length 0),m++[.row true (.a64 (Af 8))]):=by kernel_rfl
theorem oO:(prog.info? 153).bind (fun i=>i.zero.map (·.cells.size))=some 8:=by kernel_rfl
theorem Xz:A5 prog 155=some true:=by kernel_rfl
theorem XD:DN prog 155=some 4:=by kernel_rfl
theorem tc(m:Ag):Cf prog m 155=some (.c (.ptr m.length 0),m++[.row true (.a64 (Af 4))]):=by kernel_rfl
theorem uo:(prog.info? 155).bind (fun i=>i.zero.map (·.cells.size))=some 4:=by kernel_rfl
theorem jp(m:Ag):Cf prog m 159=some (.c (.ptr m.length 0),m++[.row true (.a64 (Af 5))]):=by kernel_rfl
theorem Fd:A5 prog 160=some true:=by kernel_rfl
theorem E9:DN prog 160=some 5:=by kernel_rfl
theorem N5(m:Ag):Cf prog m 160=some (.c (.ptr m.length 0),m++[.row true (.a64 (Af 5))]):=by kernel_rfl
theorem ny:(prog.info? 160).bind (fun i=>i.zero.map (·.cells.size))=some 5:=by kernel_rfl
theorem tq:(prog.info? 160).bind (fun i=>i.zero.map (fun z=>Bu z.cells.toList))=some (.a64 (Af 5)):=by kernel_rfl
theorem XX:A5 prog 162=some true:=by kernel_rfl
theorem XU:DN prog 162=some 20:=by kernel_rfl
theorem sU(m:Ag):Cf prog m 162=some (.c (.ptr m.length 0),m++[.row true (.a64 (Af 20))]):=by kernel_rfl
theorem OL(b o:Nat):BK prog 162 (.c (.ptr b o)) 0=some (.c (.ptr b (o+0))):=by kernel_rfl
theorem N7(b o:Nat):BK prog 162 (.c (.ptr b o)) 1=some (.c (.ptr b (o+5))):=by kernel_rfl
theorem Qb(b o:Nat):BK prog 162 (.c (.ptr b o)) 2=some (.c (.ptr b (o+10))):=by kernel_rfl
theorem aS(b o:Nat):BK prog 162 (.c (.ptr b o)) 3=some (.c (.ptr b (o+15))):=by kernel_rfl
theorem de:Bo prog 162 []=some (.agg (.a64 (Af 20))):=Ww K_ K_
theorem mW{a b c d:AB 64}(ha:a.length=5)(hb:b.length=5)(hc:c.length=5)(hd:d.length=5):Bo prog 162 [(0,.agg (.a64 a)),(1,.agg (.a64 b)),(2,.agg (.a64 c)),(3,.agg (.a64 d))]=some (.agg (.a64 (a++b++c++d))):=by
 rw [Ng (x:= .a64 (Af 20)) (places:=[(0,5),(5,5),(10,5),(15,5)]) K_ K_]
 rw [show Af 20=Af (5+5+5+5) from rfl,jB (n:=5) rfl rfl rfl rfl ha hb hc hd]
 rfl
theorem pg:A5 prog 181=some true:=by kernel_rfl
theorem cW:DN prog 181=some 16:=by kernel_rfl
theorem ko(m:Ag):Cf prog m 181=some (.c (.ptr m.length 0),m++[.row true (.a32 (Nc 16))]):=by kernel_rfl
theorem ug:(prog.info? 181).bind (fun i=>i.zero.map (fun z=>Bu z.cells.toList))=some (.a32 (Nc 16)):=by kernel_rfl
theorem tr(m:Ag):Cf prog m 201=some (.c (.ptr m.length 0),m++[.row true (.a64 (Af 80))]):=by kernel_rfl
theorem XN:A5 prog 213=some true:=by kernel_rfl
theorem XH:DN prog 213=some 5:=by kernel_rfl
theorem ti(m:Ag):Cf prog m 213=some (.c (.ptr m.length 0),m++[.row true (.a64 (Af 5))]):=by kernel_rfl
theorem vK(m:Ag):Cf prog m 226=some (.c (.ptr m.length 0),m++[.row true (.a64 (Af 9))]):=by kernel_rfl
theorem xG:A6 11:=A9 func11
theorem wP:A6 13:=A9 func13
theorem wZ:A6 15:=A9 func15
theorem fX:A6 17:=A9 func17
theorem PU:A6 19:=A9 func19
theorem rg:A6 20:=A9 func20
theorem Vn:A6 21:=A9 func21
theorem VA:A6 22:=A9 func22
theorem Uf:A6 23:=A9 func23
theorem bQ:A6 24:=A9 func24
theorem eU:A6 25:=A9 func25
theorem xP:A6 26:=A9 func26
theorem wk:A6 32:=A9 func32
theorem eT:A6 35:=A9 func35
theorem RF:A6 38:=A9 func38
theorem eb:A6 40:=A9 func40
theorem bI:A6 41:=A9 func41
theorem kq:A6 42:=A9 func42
theorem rk:A6 44:=A9 func44
theorem rm:A6 45:=A9 func45
theorem Vr:A6 46:=A9 func46
theorem rb:A6 47:=A9 func47
theorem kj:A6 48:=A9 func48
theorem eY:A6 49:=A9 func49
theorem jo:A6 50:=A9 func50
theorem sD:A6 51:=A9 func51
theorem yL:A6 52:=A9 func52
theorem sF:A6 53:=A9 func53
theorem rG:A6 55:=A9 func55
theorem yX:A6 60:=A9 func60
theorem sH:A6 61:=A9 func61
theorem sM:A6 62:=A9 func62
theorem KR:A6 63:=A9 func63
theorem SS:A6 69:=A9 func69
theorem xy:A6 70:=A9 func70
theorem xI:A6 71:=A9 func71
theorem kE:A6 72:=A9 func72
theorem kx:A6 73:=A9 func73
theorem nx:A6 74:=A9 func74
theorem oH:A6 75:=A9 func75
theorem rT:A6 76:=A9 func76
theorem rn:A6 79:=A9 func79
theorem wA:A6 80:=A9 func80
theorem rL:A6 92:=A9 func92
theorem me:A6 94:=A9 func94
theorem dW:A6 101:=A9 func101
theorem ls:A6 103:=A9 func103
theorem mo:A6 104:=A9 func104
theorem sp:A6 105:=A9 func105
theorem tg:A6 106:=A9 func106
theorem tA:A6 107:=A9 func107
theorem oE:A6 108:=A9 func108
theorem nU:A6 109:=A9 func109
theorem kF:A6 115:=A9 func115
theorem mf:A6 116:=A9 func116
theorem dz:A6 123:=A9 func123
theorem kH:A6 124:=A9 func124
theorem dn:A6 125:=A9 func125
theorem vM:A6 126:=A9 func126
theorem sn:A6 127:=A9 func127
theorem tO:A6 128:=A9 func128
theorem cA:A6 129:=A9 func129
theorem lI:A6 130:=A9 func130
theorem sg:A6 132:=A9 func132
theorem jr:A6 144:=A9 func144
theorem uH:A6 145:=A9 func145
theorem ni:A6 146:=A9 func146
theorem vP:A6 147:=A9 func147
theorem kp:A6 148:=A9 func148
theorem OG:A6 149:=A9 func149
theorem nv:A6 153:=A9 func153
theorem Pd:A6 154:=A9 func154
theorem Gt:A6 155:=A9 func155
theorem G3:A6 156:=A9 func156
theorem GY:A6 157:=A9 func157
theorem BW:A6 158:=A9 func158
theorem RV:A6 159:=A9 func159
theorem Ka:A6 160:=A9 func160
theorem eC:Tz prog 161 sub64Entry:=⟨⟨_,func161,K_,K_,K_,by kernel_rfl⟩⟩
theorem Ta:Tz prog 162 add64Entry:=⟨⟨_,func162,K_,K_,K_,by kernel_rfl⟩⟩
theorem ci:A6 163:=A9 func163
theorem Xu:A6 164:=A9 func164
theorem SL:A6 165:=A9 func165
theorem XB:A6 166:=A9 func166
theorem dP:A6 167:=A9 func167
theorem tI:A6 168:=A9 func168
theorem lM:A6 169:=A9 func169
theorem uU:A6 170:=A9 func170
theorem KZ:A6 171:=A9 func171
theorem nM:A6 172:=A9 func172
theorem nm:A6 173:=A9 func173
theorem sa:A6 183:=A9 func183
theorem mA:A6 184:=A9 func184
theorem vG:A6 185:=A9 func185
theorem tD:A6 186:=A9 func186
theorem R7:A6 187:=A9 func187
theorem db:A6 188:=A9 func188
theorem bV:A6 189:=A9 func189
theorem vb:A6 190:=A9 func190
theorem dD:A6 196:=A9 func196
theorem To:A6 197:=A9 func197
theorem mixed:prog.follows .mixedOrders=true:=by kernel_rfl
abbrev Ai(b:Nat):AV:= .c (.ptr b 0)
theorem P7(k:r)(h:Hid r→g:=by intro h;refine S_ ?_;refine Ac ?_;refine AA (Ae rfl) rfl ?_;refine AM ?_;refine S_ ?_;refine Ac ?_;exact h.out):g:=h ⟨k⟩
theorem bp(k:r)(h:Hid r→g:=by intro h;refine A2 (WZ vh AN) AK rfl ?_;exact h.out):g:=h ⟨k⟩
theorem Bv(k:r)(h:Hid r→g:=by intro h;refine AA (Ae rfl) rfl ?_;refine AM ?_;exact h.out):g:=h ⟨k⟩
theorem lg:Ev prog (.call 20 [] []) (.val (Ai 0) [.row true (.ac [.sl 1 0 0 0 3,.mp 2]),.row true (.an []),.row true (.mp (Bf []))]):=by
 refine AJ func20 rfl ntmps20 rfl AN ?_;refine P7 ?_;refine DK (Rz) rfl ?_;refine AA (oh rfl) rfl ?_;refine bp ?_;refine Bv ?_;refine Q_ ?_;refine kL 1 0 3 (.an []) rfl rfl rfl rfl ?_;refine S_ ?_;exact fS (Dt rfl) K_
theorem Wm{m:Nat}{a:List Int}{j:Nat}(hj:j<a.length):hasB m (a.drop j)=((decide (0≤AX a j)&&decide (AX a j<(m:Int)))&&hasB m (a.drop (j+1))):=by
 unfold hasB
 rw [List.drop_eq_getElem_cons hj,List.all_cons]
 congr 2<;>simp [AX,hj]
abbrev Aj(i:Int):AV:= .c (.val (.int .i64 i))
theorem Hk(k:r)(h:Hid r→g:=by intro h;refine S_ ?_;refine Ac ?_;refine AA (Ae rfl) rfl ?_;refine AM ?_;refine S_ ?_;refine Ac ?_;refine AA (Ah rfl) rfl ?_;exact h.out):g:=h ⟨k⟩
theorem HN(k:r)(h:Hid r→g:=by intro h;refine AA (Ku rfl underlying41) rfl ?_;exact h.out):g:=h ⟨k⟩
theorem Pn(k:r)(h:Hid r→g:=by intro h;refine AA (Ah rfl) rfl ?_;refine AM ?_;refine S_ ?_;exact h.out):g:=h ⟨k⟩
theorem NJ(k:r)(h:Hid r→g:=by intro h;refine S_ ?_;refine Ac ?_;refine AA (BE rfl rfl) rfl ?_;refine AM ?_;refine S_ ?_;refine Ac ?_;exact h.out):g:=h ⟨k⟩
theorem lX(k:r)(h:Hid r→g:=by intro h;refine AA (Ff rfl rfl underlying41 OF O_) rfl ?_;exact h.out):g:=h ⟨k⟩
end Go.Proofs.YtmbepikkgkcgkaaGreatDoor
