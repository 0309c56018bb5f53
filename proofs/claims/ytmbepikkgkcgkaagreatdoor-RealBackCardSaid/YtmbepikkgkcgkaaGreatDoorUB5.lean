/- Merged and shortened by a program: part 5. -/
import Derived.Test.YtmbepikkgkcgkaaGreatDoorUB4
set_option maxRecDepth 100000
set_option maxHeartbeats 8000000
namespace Go.Proofs.YtmbepikkgkcgkaaGreatDoor
open Go.RowKit
variable {g r : Prop}
open Go.Proofs.Tryz
end Go.Proofs.YtmbepikkgkcgkaaGreatDoor
namespace Go.Proofs.YtmbepikkgkcgkaaGreatDoor
open Go.RowKit
open Go.MapKept (IsKey findNow_spec run_checkKey run_findKey)
variable {g r : Prop}
open Go.Proofs.Tryz
theorem rL{k:Nat}{ι:Emb}{M:Ak}{w:World}(hk:k≤M.length)(hR:R ι M w){b:Nat}{l:Loc}{x:Arr}{es:List (Value×C6)}(hb:ι b=some l)(hm:M[b]?=some (.row true x)){ents:Array MapEntry}{clock:Nat}(he:IOq ι es ents):
  Step k ι M w ι (M.set b (.row true (.mp es))) { w with heap:=w.heap.setIfInBounds l.c (.map ents clock) }:=by
 have hown:C5 ι M l.c:=⟨b,l,x,hb,hm,rfl⟩
 have hlt:=hR.lt hb hm
 have far:∀c,c≠l.c→(w.heap.setIfInBounds l.c (.map ents clock))[c]?=w.heap[c]?:=fun c hc=>by rw [Array.getElem?_setIfInBounds_ne (fun e=>hc e.symm)]
 refine Step.make hR (fun b hb=>hR.dom b (by simpa using hb)) (fun b1 l1 own z hb1 hm1=>?_) (fun b1 b2 l1 l2 o1 o2 z1 z2 hne h1 h2 k1 k2 ho=>?_) ⟨rfl,rfl,rfl,by simp,fun c hc hn=>far c (fun e=>hn (by rw [e];exact hown)),fun c hc=>?_⟩ rfl (fun _ _=>rfl) (by simpa using hk) (fun b1 z hb1 hm1=>?_) (fun b1 own z hb1 hm1=>?_) (fun b1 l1 own z hb1 h1 h2=>?_)
 ·rcases CN hm1 with ⟨hne,hm1⟩ | ⟨rfl,e⟩
  ·have hc:l1.c≠l.c:=hR.inj b1 b l1 l own true z x hne hb1 hb hm1 hm (.inr rfl)
   exact (hR.rows b1 l1 own z hb1 hm1).heap (far _ hc) (.refl _)
  ·cases e
   rw [hb] at hb1;cases hb1
   exact ⟨ents,clock,by simp [hlt],he⟩
 ·rcases CN k1 with ⟨e1,m1⟩ | ⟨rfl,e1⟩<;>rcases CN k2 with ⟨e2,m2⟩ | ⟨rfl,e2⟩
  ·exact hR.inj b1 b2 l1 l2 o1 o2 z1 z2 hne h1 h2 m1 m2 ho
  ·exact hR.inj b1 b2 l1 l2 o1 true z1 x hne h1 h2 m1 hm (.inr rfl)
  ·exact hR.inj b1 b2 l1 l2 true o2 x z2 hne h1 h2 hm m2 (.inl rfl)
  ·exact absurd rfl hne
 ·obtain ⟨b1,l1,z,h1,k1,rfl⟩:=hc
  rcases CN k1 with ⟨e1,k1⟩ | ⟨rfl,e1⟩
  ·exact .inr ⟨b1,l1,z,h1,k1,rfl⟩
  ·exact .inr ⟨b1,l1,x,h1,hm,rfl⟩
 ·rw [List.getElem?_set_ne (fun e=>by subst e;rw [hm] at hm1;cases hm1)];exact hm1
 ·rcases CN hm1 with ⟨hne,hm1⟩ | ⟨rfl,e⟩
  ·exact ⟨z,hm1⟩
  ·cases e;exact ⟨x,hm⟩
 ·rcases CN h2 with ⟨hne,h2⟩ | ⟨rfl,e⟩
  ·exact .inr (.inr ⟨b1,l1,own,z,hb1,h1,h2,rfl⟩)
  ·exact .inr (.inr ⟨b1,l1,true,x,hb1,h1,hm,rfl⟩)
theorem cG{ι:Emb}{M:Ak}{w:World}(hR:R ι M w):Step M.length ι M w (ι.upd M.length ⟨w.heap.size,0,0⟩) (M++[.row true (.mp [])]) (w.alloc (.map #[] 0)):=by
 have hle:=hR.upd_le ⟨w.heap.size,0,0⟩
 have old:∀c,c<w.heap.size→(w.alloc (.map #[] 0)).heap[c]?=w.heap[c]?:=fun c hc=>by show (w.heap.push _)[c]?=_;rw [Array.getElem?_push,if_neg O_]
 refine Step.make hR (fun b hb=>?_) (fun b l own y hb hm=>?_) (fun b b' l l' own own' y y' hne hb hb' hm hm' ho=>?_) ⟨rfl,rfl,rfl,by show _≤(w.heap.push _).size;simp,fun c hc _=>old c hc,fun c hc=>?_⟩ rfl (fun b hb=>Emb.upd_ne O_) (by simp) (fun b x hb hm=>by rw [List.getElem?_append_left hb];exact hm) (fun b own x hb hm=>⟨x,by rwa [List.getElem?_append_left hb] at hm⟩) (fun b l own y hb h1 h2=>?_)
 ·simp at hb
  rw [Emb.upd_ne O_];exact hR.dom b O_
 ·rcases Ch hm with ⟨hlt,hm⟩ | ⟨rfl,e⟩
  ·rw [Emb.upd_ne O_] at hb
   exact (hR.rows b l own y hb hm).heap (old _ (hR.lt hb hm)) hle
  ·cases e
   rw [Emb.upd_eq] at hb
   cases hb
   exact ⟨#[],0,by show (w.heap.push _)[w.heap.size]?=_;rw [Array.getElem?_push,if_pos rfl],rfl,fun i p h=>by simp at h⟩
 ·rcases Ch hm with ⟨hlt,hm⟩ | ⟨rfl,e⟩<;>rcases Ch hm' with ⟨hlt',hm'⟩ | ⟨rfl,e'⟩
  ·rw [Emb.upd_ne O_] at hb hb'
   exact hR.inj b b' l l' own own' y y' hne hb hb' hm hm' ho
  ·rw [Emb.upd_ne O_] at hb
   rw [Emb.upd_eq] at hb'
   cases hb'
   have:=hR.lt hb hm
   show l.c≠w.heap.size
   omega
  ·rw [Emb.upd_ne O_] at hb'
   rw [Emb.upd_eq] at hb
   cases hb
   have:=hR.lt hb' hm'
   show w.heap.size≠l'.c
   omega
  ·exact absurd rfl hne
 ·obtain ⟨b,l,y,hb,hm,rfl⟩:=hc
  rcases Ch hm with ⟨hlt,hm⟩ | ⟨rfl,e⟩
  ·rw [Emb.upd_ne O_] at hb
   exact .inr ⟨b,l,y,hb,hm,rfl⟩
  ·rw [Emb.upd_eq] at hb
   cases hb
   exact .inl (Nat.le_refl _)
 ·rcases Ch h2 with ⟨hlt,h2⟩ | ⟨rfl,e⟩
  ·omega
  ·rw [Emb.upd_eq] at h1
   cases h1
   exact .inl (Nat.le_refl _)
def Keyed(d:TypeDesc)(es:List (Value×C6)):Prop:=(∀p∈es,IsKey d p.1)∧es.Pairwise fun p q=>p.1≠q.1
theorem Keyed.ents{d:TypeDesc}{es:List (Value×C6)}(h:Keyed d es){ι:Emb}{ents:Array MapEntry}(he:IOq ι es ents):∀x∈ents.toList,IsKey d x.key:=by
 intro x hx
 obtain ⟨i,hi,rfl⟩:=List.getElem_of_mem hx
 simp only [Array.length_toList] at hi
 have hi':i<es.length:=by rw [←he.1];exact hi
 obtain ⟨e,h1,h2,_⟩:=he.2 i es[i] (by simp [hi'])
 rw [Array.getElem?_eq_getElem hi] at h1
 cases h1
 rw [Array.getElem_toList,h2]
 exact h.1 _ (List.getElem_mem _)
theorem kI{ι:Emb}{es:List (Value×C6)}{ents:Array MapEntry}(he:IOq ι es ents){k:Value}(hk:∀p∈es,p.1≠k):∀x∈ents.toList,x.key≠k:=by
 intro x hx
 obtain ⟨i,hi,rfl⟩:=List.getElem_of_mem hx
 simp only [Array.length_toList] at hi
 have hi':i<es.length:=by rw [←he.1];exact hi
 obtain ⟨e,h1,h2,_⟩:=he.2 i es[i] (by simp [hi'])
 rw [Array.getElem?_eq_getElem hi] at h1
 cases h1
 rw [Array.getElem_toList,h2]
 exact hk _ (List.getElem_mem _)
theorem YP{P:Program}{ι:Emb}{w:World}{kt:TypeId}{d:TypeDesc}{es:List (Value×C6)}{ents:Array MapEntry}(hd:P.underlying kt=some d)(hes:Keyed d es)(he:IOq ι es ents){k:Value}(hk:IsKey d k)(hn:∀p∈es,p.1≠k):(Instr.findKey kt k ents.toList).run P w= .ok none w:=by
 refine run_findKey hd ?_;rcases findNow_spec hk ents.toList 0 (hes.ents he) with ⟨h,_⟩ | ⟨j,e,_,h2,h3⟩
 ·exact h
 ·exact absurd h3 (kI he hn _ (List.mem_of_getElem? h2))
theorem YM{P:Program}{ι:Emb}{w:World}{kt:TypeId}{d:TypeDesc}{es:List (Value×C6)}{ents:Array MapEntry}(hd:P.underlying kt=some d)(hes:Keyed d es)(he:IOq ι es ents){k:Value}{c:C6}(hm:(k,c)∈es):∃j v,(Instr.findKey kt k ents.toList).run P w= .ok (some (j,v)) w∧c.cell.rel ι v:=by
 rcases findNow_spec (hes.1 _ hm) ents.toList 0 (hes.ents he) with ⟨_,h⟩ | ⟨j,e,h1,h2,h3⟩
 ·obtain ⟨i,hi,e⟩:=List.getElem_of_mem hm
  obtain ⟨x,h1,h2,_⟩:=he.2 i (k,c) (by simp [hi,e])
  exact absurd h2 (h x (by rw [←Array.getElem?_toList] at h1;exact List.mem_of_getElem? h1))
 ·have hj:j<es.length:=by
   have:=(List.getElem?_eq_some_iff.1 h2).1
   rw [Array.length_toList,he.1] at this;exact this
  obtain ⟨x,g1,g2,g3⟩:=he.2 j es[j] (by simp [hj])
  rw [Array.getElem?_toList,g1] at h2
  cases h2
  have hp:es[j]=(k,c):=by
   obtain ⟨i,hi,e1⟩:=List.getElem_of_mem hm
   rcases Nat.lt_trichotomy i j with hij | hij | hij
   ·have:=List.pairwise_iff_getElem.1 hes.2 i j hi hj hij
    rw [e1] at this
    exact absurd (g2.symm.trans h3).symm this
   ·subst hij;exact e1
   ·have:=List.pairwise_iff_getElem.1 hes.2 j i hj hi hij
    rw [e1] at this
    exact absurd (g2.symm.trans h3) this
  rw [hp] at g3
  exact ⟨_,_,run_findKey hd h1,g3⟩
section
variable {P:Program} {e:Operand→AV} {M M':Ak} {b:Nat} {t kt el:TypeId} {d:TypeDesc} {x ix y:Operand} {es:List (Value×C6)} {k:Value} {c:C6} {own:Bool}
theorem TP:Ev P (.op (.makeMap t none) e M) (.val (.c (.mp M.length)) (M++[.row true (.mp [])])):=
 Ev.sem fun O ι w ρ hO hR _=>by
  obtain ⟨dst,op,ty,pos,af,gd⟩:=O
  subst hO
  refine .inl ⟨.map (some w.heap.size),_,_,.inl ?_,⟨_,Emb.upd_eq _ _ _,rfl⟩,cG hR⟩
  simp [execOp,Instr.makeMap]
theorem ZT{ι:Emb}{w:World}(hR:R ι M w)(hm:M[b]?=some (.row own (.mp es))){v:Value}(hv:Cell.rel ι (.mp b) v):∃l ents clock,ι b=some l∧v= .map (some l.c)∧w.heap[l.c]?=some (.map ents clock)∧IOq ι es ents:=by
 obtain ⟨l,hl,rfl⟩:=hv
 obtain ⟨ents,clock,h1,h2⟩:=hR.rows b l own _ hl hm
 exact ⟨l,ents,clock,hl,rfl,h1,h2⟩
theorem sH(ht:P.underlying t=some (.map kt el))(hd:P.underlying kt=some d)(hx:e x= .c (.mp b))(hi:e ix= .c (.val k))(hm:M[b]?=some (.row own (.mp es)))(hes:Keyed d es)(hk:(k,c)∈es):Ev P (.op (.lookup t x ix true) e M) (.val (.tup [.c c.cell,.c (.val (.bool true))]) M):=
 Ev.sem fun O ι w ρ hO hR hρ=>by
  obtain ⟨dst,op,ty,pos,af,gd⟩:=O
  subst hO
  have h1:=hρ x (by simp [Op.operands])
  have h2:=hρ ix (by simp [Op.operands])
  rw [hx] at h1;rw [hi] at h2
  obtain ⟨l,ents,clock,hl,hv,hh,he⟩:=ZT hR hm h1
  obtain ⟨j,v,g1,g2⟩:=YM (w:=w) hd hes he hk
  have h2:ρ ix=k:=h2
  refine .inl ⟨.tuple #[v,.bool true],w,ι,.inl ?_,?_,Step.refl hR (Nat.le_refl _)⟩
  ·simp [execOp,Instr.lookup,run_underlying ht,hv,h2,Go.MapKept.run_getObj_map hh,run_checkKey hd (hes.1 _ hk),g1]
  ·refine ⟨_,rfl,rfl,fun i x u hx hu=>?_⟩
   match i with
   |0=>simp at hx hu;subst hx;subst hu;exact g2
   |1=>simp at hx hu;subst hx;subst hu;exact rfl
   |i+2=>simp at hx
theorem Iq(ht:P.underlying t=some (.map kt el))(hd:P.underlying kt=some d)(hx:e x= .c (.mp b))(hi:e ix= .c (.val k))(hm:M[b]?=some (.row own (.mp es)))(hes:Keyed d es)(hk:(k,c)∈es):Ev P (.op (.lookup t x ix false) e M) (.val (.c c.cell) M):=
 Ev.sem fun O ι w ρ hO hR hρ=>by
  obtain ⟨dst,op,ty,pos,af,gd⟩:=O
  subst hO
  have h1:=hρ x (by simp [Op.operands])
  have h2:=hρ ix (by simp [Op.operands])
  rw [hx] at h1;rw [hi] at h2
  obtain ⟨l,ents,clock,hl,hv,hh,he⟩:=ZT hR hm h1
  obtain ⟨j,v,g1,g2⟩:=YM (w:=w) hd hes he hk
  have h2:ρ ix=k:=h2
  refine .inl ⟨v,w,ι,.inl ?_,g2,Step.refl hR (Nat.le_refl _)⟩
  simp [execOp,Instr.lookup,run_underlying ht,hv,h2,Go.MapKept.run_getObj_map hh,run_checkKey hd (hes.1 _ hk),g1]
theorem gz{i:TypeInfo}{z:Value}(ht:P.underlying t=some (.map kt el))(hd:P.underlying kt=some d)(hz:P.info? el=some i)(hz':i.zero=some z)(hc:∀ι,c.cell.rel ι z)(hx:e x= .c (.mp b))(hi:e ix= .c (.val k))(hm:M[b]?=some (.row own (.mp es)))(hes:Keyed d es)(hk:IsKey d k)(hn:∀p∈es,p.1≠k):Ev P (.op (.lookup t x ix true) e M) (.val (.tup [.c c.cell,.c (.val (.bool false))]) M):=
 Ev.sem fun O ι w ρ hO hR hρ=>by
  obtain ⟨dst,op,ty,pos,af,gd⟩:=O
  subst hO
  have h1:=hρ x (by simp [Op.operands])
  have h2:=hρ ix (by simp [Op.operands])
  rw [hx] at h1;rw [hi] at h2
  obtain ⟨l,ents,clock,hl,hv,hh,he⟩:=ZT hR hm h1
  have g1:=YP (w:=w) hd hes he hk hn
  have h2:ρ ix=k:=h2
  refine .inl ⟨.tuple #[z,.bool false],w,ι,.inl ?_,?_,Step.refl hR (Nat.le_refl _)⟩
  ·simp [execOp,Instr.lookup,run_underlying ht,hv,h2,Go.MapKept.run_getObj_map hh,run_checkKey hd hk,g1,zeroValue,typeInfo,hz,hz']
  ·refine ⟨_,rfl,rfl,fun i x u hx hu=>?_⟩
   match i with
   |0=>simp at hx hu;subst hx;subst hu;exact hc ι
   |1=>simp at hx hu;subst hx;subst hu;exact rfl
   |i+2=>simp at hx
theorem Rw(ht:P.underlying t=some (.map kt el))(hd:P.underlying kt=some d)(hx:e x= .c (.mp b))(hi:e ix= .c (.val k))(hy:e y= .c c.cell)(hm:M[b]?=some (.row true (.mp es)))(hes:Keyed d es)(hk:IsKey d k)(hn:∀p∈es,p.1≠k)(hM:M.set b (.row true (.mp (es++[(k,c)])))=M'):Ev P (.op (.mapUpdate t x ix y) e M) (.val (.c .any) M'):=
 Ev.sem fun O ι w ρ hO hR hρ=>by
  obtain ⟨dst,op,ty,pos,af,gd⟩:=O
  subst hO;subst hM
  have h1:=hρ x (by simp [Op.operands])
  have h2:=hρ ix (by simp [Op.operands])
  have h3:=hρ y (by simp [Op.operands])
  rw [hx] at h1;rw [hi] at h2;rw [hy] at h3
  obtain ⟨l,ents,clock,hl,hv,hh,he⟩:=ZT hR hm h1
  have g1:=YP (w:=w) hd hes he hk hn
  have h2:ρ ix=k:=h2
  refine .inl ⟨undef,_,ι,.inr ⟨?_,rfl⟩,trivial,rL (Nat.le_refl _) hR hl hm (ents:=ents.push ⟨k,ρ y,clock⟩) (clock:=clock+1) ⟨by simp [he.1],fun i p hp=>?_⟩⟩
  ·simp [execOp,Instr.mapUpdate,run_underlying ht,hv,h2,Go.MapKept.run_getObj_map hh,run_checkKey hd hk,g1,Go.MapKept.run_setObj_map _ hh]
  ·by_cases hi:i<es.length
   ·rw [List.getElem?_append_left hi] at hp
    obtain ⟨e,k1,k2⟩:=he.2 i p hp
    exact ⟨e,by rw [Array.getElem?_push,if_neg (by rw [he.1];omega)];exact k1,k2⟩
   ·rw [List.getElem?_append_right O_] at hp
    have:i=es.length:=by
     have:=(List.getElem?_eq_some_iff.1 hp).1
     simp at this;omega
    subst this
    simp at hp;subst hp
    exact ⟨⟨k,ρ y,clock⟩,by rw [Array.getElem?_push,if_pos he.1.symm],rfl,h3⟩
end
end Go.Proofs.YtmbepikkgkcgkaaGreatDoor
namespace Go.Proofs.YtmbepikkgkcgkaaGreatDoor
open Go.RowKit
variable {g r : Prop}
open Go.Proofs.Tryz
section
variable {P:Program} {k N:Nat} {ops:Array Oper} {d:Nat} {ty:TypeId} {pos:String} {af:Array Edge} {l0:List Oper} {T:Nat→AV} {M M':Ak} {K:St→Prop} {t t' el:TypeId} {x i a s:Operand}
theorem eF{y:AB 8}{n:Nat}(hx:AC T x= .c (.bs y))(hu:P.underlying t=some (.slice el))(hn:y.length=n):AL P (AC T) M (.call { callee:= .builtin .len,args:= #[x],argTypes:= #[t] })=some (.c (.val (.int .i64 (n:Int)))):=by
 subst hn
 show Se P t (AC T x)=_
 rw [hx];simp [Se,DV,hu]
theorem nr{y:List Int}{n:Nat}(hx:AC T x= .c (.is y))(hu:P.underlying t=some (.slice el))(hn:y.length=n):AL P (AC T) M (.call { callee:= .builtin .len,args:= #[x],argTypes:= #[t] })=some (.c (.val (.int .i64 (n:Int)))):=by
 subst hn
 show Se P t (AC T x)=_
 rw [hx];simp [Se,DV,hu]
theorem uk{lo hi:Option Operand}{y:AB 8}{l h:Nat}(hx:AC T x= .c (.bs y))(hu:P.underlying t=some (.slice el))(hs:De P el=some 1)(hl:QO 0 (lo.map (AC T))=some (l:Int))(hh:QO y.length (hi.map (AC T))=some (h:Int))(h1:l≤h)(h2:h≤y.length):AL P (AC T) M (.slice t x lo hi none)=some (.c (.bs (cut y l (h-l)))):=by
 show HP P M t (AC T x) (lo.map (AC T)) (hi.map (AC T))=_
 rw [hx]
 simp only [HP,hu,hl,hh]
 rw [if_pos ⟨hs,by omega,by omega,by omega⟩]
 congr 4
 omega
theorem Sl{lo:Operand}{y:AB 8}{l:Nat}{kd:IntKind}(hx:AC T x= .c (.bs y))(hl:AC T lo= .c (.val (.int kd (l:Int))))(hu:P.underlying t=some (.slice el))(hs:De P el=some 1)(h2:l≤y.length):AL P (AC T) M (.slice t x (some lo) none none)=some (.c (.bs (y.drop l))):=by
 rw [uk (l:=l) (h:=y.length) hx hu hs (by simp [QO,Fc,hl]) rfl h2 (Nat.le_refl _)]
 congr 3
 unfold cut
 rw [List.take_of_length_le (by simp)]
theorem Yx{hi:Operand}{y:AB 8}{h:Nat}{kd:IntKind}(hx:AC T x= .c (.bs y))(hh:AC T hi= .c (.val (.int kd (h:Int))))(hu:P.underlying t=some (.slice el))(hs:De P el=some 1)(h2:h≤y.length):AL P (AC T) M (.slice t x none (some hi) none)=some (.c (.bs (y.take h))):=by
 rw [uk (l:=0) (h:=h) hx hu hs rfl (by simp [QO,Fc,hh]) (Nat.zero_le _) h2]
 rfl
theorem yZ{y:AB 8}{kd:IntKind}{j:Nat}(hx:AC T x= .c (.bs y))(hi:AC T i= .c (.val (.int kd (j:Int))))(hu:P.underlying t=some (.slice el))(hs:De P el=some 1)(h0:j<y.length):AL P (AC T) M (.indexAddr t x i)=some (.c (.qb y j)):=by
 show Hb P t (AC T x) (AC T i)=_
 rw [hx,hi]
 have h1:(0:Int)≤(j:Int)∧(j:Int)<(y.length:Int):=by omega
 simp only [Hb,hu,Fc,hs,h1,and_self,if_true,Int.toNat_natCast]
theorem VH{y:List Int}{kd:IntKind}{j:Nat}(hx:AC T x= .c (.is y))(hi:AC T i= .c (.val (.int kd (j:Int))))(hu:P.underlying t=some (.slice el))(hs:De P el=some 1)(h0:j<y.length):AL P (AC T) M (.indexAddr t x i)=some (.c (.qi y j)):=by
 show Hb P t (AC T x) (AC T i)=_
 rw [hx,hi]
 have h1:(0:Int)≤(j:Int)∧(j:Int)<(y.length:Int):=by omega
 simp only [Hb,hu,Fc,hs,h1,and_self,if_true,Int.toNat_natCast]
theorem sw{y:AB 8}{j:Nat}(ha:AC T a= .c (.qb y j))(hr:BC P t=some false)(h:j<y.length):AL P (AC T) M (.load t a)=some (.c (.val (U8 (nth y j)))):=by
 simp only [AL,ha,FK,hr,Arr.size,h,if_true,Arr.get]
theorem C0{y:List Int}{j:Nat}(ha:AC T a= .c (.qi y j))(hr:BC P t=some false)(h:j<y.length):AL P (AC T) M (.load t a)=some (.c (.val (.int .i64 (AX y j)))):=by
 simp only [AL,ha,FK,hr,Arr.size,h,if_true,Arr.get]
theorem QJ{b o:Nat}{own:Bool}{y:List (AB 8)}(ha:AC T a= .c (.ptr b o))(hm:M[b]?=some (.row own (.ab y)))(hr:BC P t=some false)(ho:o<y.length):AL P (AC T) M (.load t a)=some (.c (.bs (Fh y o))):=
 B9 ha hm hr ho rfl
theorem QI{b o:Nat}{own:Bool}{y:List Bool}(ha:AC T a= .c (.ptr b o))(hm:M[b]?=some (.row own (.bl y)))(hr:BC P t=some false)(ho:o<y.length):AL P (AC T) M (.load t a)=some (.c (.val (.bool (JN y o)))):=
 B9 ha hm hr ho rfl
theorem R5{b o j:Nat}{own:Bool}{y:List Nd}(ha:AC T a= .c (.ptr b o))(hj:o=j*3)(hm:M[b]?=some (.row own (.an y)))(hr:BC P t=some true)(hs:De P t=some 3)(h:j<y.length):Ev P (.op (.load t a) (AC T) M) (.val (.agg (.ac [.val (.int .i64 (Aa y j).k),.val (.int .i64 (Aa y j).n),.is (Aa y j).a])) M):=by
 subst hj
 have h3:j*3+3≤Arr.size (.an y):=by show _≤3*y.length;omega
 have hv:AL P (AC T) M (.load t a)=some (.agg (Ft (.an y) (j*3) 3)):=by simp [AL,ha,hm,FK,hr,hs,h3]
 refine Ev.opPost (Ev.val hv) fun ι w u hk hR hu=>⟨ι,?_,Step.refl hR hk⟩
 obtain ⟨cs,rfl,g1,g2⟩:=hu
 have hsz:(Ft (.an y) (j*3) 3).size=3:=IC h3
 refine ⟨cs,rfl,g1.trans hsz,fun i hi=>?_⟩
 have hi:i<3:=hi
 obtain ⟨v,e1,e2⟩:=g2 i O_
 refine ⟨v,e1,?_⟩
 rw [PQ hi h3] at e2
 rcases (by omega:i=0∨i=1∨i=2) with e | e | e<;>subst e
 ·rw [show (Arr.an y).get (j*3+0)= .val (.int .i64 (Aa y j).k) by simp only [Arr.get];rw [show (j*3+0)/3=j by omega,show (j*3+0)%3=0 by omega];rfl] at e2
  exact e2
 ·rw [show (Arr.an y).get (j*3+1)= .val (.int .i64 (Aa y j).n) by simp only [Arr.get];rw [show (j*3+1)/3=j by omega,show (j*3+1)%3=1 by omega];rfl] at e2
  exact e2
 ·rw [show (Arr.an y).get (j*3+2)= .is (Aa y j).a by simp only [Arr.get];rw [show (j*3+2)/3=j by omega,show (j*3+2)%3=2 by omega];rfl] at e2
  exact e2
theorem cP{b o j:Nat}{own:Bool}{y:List Nd}(ha:AC T a= .c (.ptr b o))(hj:o=j*3)(hm:M[b]?=some (.row own (.an y)))(hr:BC P t=some false)(h:j<y.length):AL P (AC T) M (.load t a)=some (.c (.val (.int .i64 (Aa y j).k))):=
 B9 ha hm hr (by show _<3*y.length;omega) (by simp only [Arr.get];rw [show o/3=j by omega,show o%3=0 by omega];rfl)
theorem iN{b o j:Nat}{own:Bool}{y:List Nd}(ha:AC T a= .c (.ptr b o))(hj:o=j*3+2)(hm:M[b]?=some (.row own (.an y)))(hr:BC P t=some false)(h:j<y.length):AL P (AC T) M (.load t a)=some (.c (.is (Aa y j).a)):=
 B9 ha hm hr (by show _<3*y.length;omega) (by simp only [Arr.get];rw [show o/3=j by omega,show o%3=2 by omega];rfl)
theorem sg{y:AB 8}{by' n m:Nat}{e2:TypeId}(hs:AC T s= .c .esl)(hx:AC T x= .c (.bs y))(hu:P.underlying t=some (.slice el))(hu2:P.underlying t'=some (.slice e2))(he:Bi P el=some (1,by'))(hl:y.length=n)(hb:n*by'≤140737488355328∧n≤9223372036854775807)(hn:M.length=m):
  CP P (AC T) M (.call { callee:= .builtin .append,args:= #[s,x],argTypes:= #[t,t'] })=some (.c (.sl m 0 n n 1),M++[.row true (.a8 y)]):=by
 show BM P M t t' (AC T s) (AC T x)=_
 subst hn;subst hl
 rw [hs,hx]
 simp [BM,hu,Et,hu2,he,Eo,Arr.one,hb.1,hb.2]
theorem oS{y u:AB 8}{by' n m b0 len cap:Nat}{e2:TypeId}(hs:AC T s= .c (.sl b0 0 len cap 1))(hms:M[b0]?=some (.row true (.a8 u)))(hx:AC T x= .c (.bs y))(hu:P.underlying t=some (.slice el))(hu2:P.underlying t'=some (.slice e2))(he:Bi P el=some (1,by'))
  (hlu:u.length=len) (hl:y.length=n) (hb:(len+n)*by'≤140737488355328∧len+n≤9223372036854775807∧n*by'≤140737488355328) (hn:M.length=m) (hM:M.set b0 .dead++[.row true (.a8 (u++y))]=M') (hd:decide (d<N)=true) (hk:WO P k ops l0 ⟨N,upd T d (.c (.sl m 0 (len+n) (len+n) 1)),M'⟩ K):
  WO P k ops (⟨some d,.call { callee:= .builtin .append,args:= #[s,x],argTypes:= #[t,t'] },ty,pos,af,none⟩::l0) ⟨N,T,M⟩ K:=
 QN (by
  show BM P M t t' (AC T s) (AC T x)=_
  subst hn;subst hM;subst hl
  rw [hs,hx]
  have hz2:Arr.size (.a8 u)=len:=hlu
  have hn9:y.length≤9223372036854775807:=by omega
  simp [BM,hu,Et,hu2,he,Eo,hms,hz2,Ft,Arr.one,Arr.app,hb.1,hb.2.1,hb.2.2,hn9]) hd hk
theorem xA{y:AB 8}{u:List (AB 8)}{by' m b0 len cap b c:Nat}{own:Bool}{e2:TypeId}(hs:AC T s= .c (.sl b0 0 len cap 1))(hms:M[b0]?=some (.row true (.ab u)))(hx:AC T x= .c (.sl b 0 1 c 1))(hm:M[b]?=some (.row own (.ac [.bs y])))(hu:P.underlying t=some (.slice el))(hu2:P.underlying t'=some (.slice e2))(he:Bi P el=some (1,by'))
  (hlu:u.length=len) (hb:(len+1)*by'≤140737488355328∧len+1≤9223372036854775807∧by'≤140737488355328) (hn:M.length=m) (hM:M.set b0 .dead++[.row true (.ab (u++[y]))]=M') (hd:decide (d<N)=true) (hk:WO P k ops l0 ⟨N,upd T d (.c (.sl m 0 (len+1) (len+1) 1)),M'⟩ K):
  WO P k ops (⟨some d,.call { callee:= .builtin .append,args:= #[s,x],argTypes:= #[t,t'] },ty,pos,af,none⟩::l0) ⟨N,T,M⟩ K:=
 QN (by
  show BM P M t t' (AC T s) (AC T x)=_
  subst hn;subst hM
  rw [hs,hx]
  have hz2:Arr.size (.ab u)=len:=hlu
  have hz:Arr.size (.ac [.bs y])=1:=rfl
  simp [BM,hu,Et,hu2,he,Eo,hm,hms,hz,hz2,Ft,Arr.one,Cell.one,Arr.app,hb.1,hb.2.1,hb.2.2]) hd hk
end
theorem Xi{k:Nat}{ι:Emb}{M:Ak}{w:World}{b:Nat}{own:Bool}{x y:Arr}(hk:k≤M.length)(hR:R ι M w)(hm:M[b]?=some (.row own x))(hx:x.isMap=false)(hy:y.isMap=false)(hs:y.size=x.size)(hg:∀(ι:Emb) i v,i<x.size→(x.get i).rel ι v→(y.get i).rel ι v)(hb:own=false→k≤b):Step k ι M w ι (M.set b (.row own y)) w:=by
 have src:∀ {i:Nat} {o:Bool} {z:Arr},(M.set b (.row own y))[i]?=some (.row o z)→ ∃z0,M[i]?=some (.row o z0)∧(i=b∧z=y∧z0=x∨i≠b∧z0=z):=fun {i o z} h=>by
  rcases CN h with ⟨h1,h2⟩ | ⟨rfl,h2⟩
  ·exact ⟨z,h2,.inr ⟨h1,rfl⟩⟩
  ·cases h2;exact ⟨x,hm,.inl ⟨rfl,rfl,rfl⟩⟩
 refine Step.make hR (fun b hb=>hR.dom b (by simpa using hb)) (fun i l o z h1 h2=>?_) (fun i i' l l' o o' z z' hne h1 h2 h3 h4 ho=>?_) ⟨rfl,rfl,rfl,Nat.le_refl _,fun _ _ _=>rfl,fun c hc=>?_⟩ rfl (fun _ _=>rfl) (by simpa using hk) (fun i z hi h=>?_) (fun i o z hi h=>?_) (fun i l o z hi h1 h2=>?_)
 ·obtain ⟨z0,h3,h4⟩:=src h2
  rcases h4 with ⟨rfl,rfl,rfl⟩ | ⟨_,rfl⟩
  ·obtain ⟨cs,t,fr,k1,k2,k3,k4⟩:=hR.cells h1 h3 hx
   refine .of hy ⟨cs,t,fr,k1,by rw [hs];exact k2,fun j hj=>?_,k4⟩
   rw [hs] at hj
   obtain ⟨v,e1,e2⟩:=k3 j hj
   exact ⟨v,e1,hg _ _ _ hj e2⟩
  ·exact hR.rows i l o z0 h1 h3
 ·obtain ⟨z0,h5,_⟩:=src h3
  obtain ⟨z0',h6,_⟩:=src h4
  exact hR.inj i i' l l' o o' z0 z0' hne h1 h2 h5 h6 ho
 ·obtain ⟨i,l,z,h1,h2,rfl⟩:=hc
  obtain ⟨z0,h3,_⟩:=src h2
  exact .inr ⟨i,l,z0,h1,h3,rfl⟩
 ·by_cases e:i=b
  ·subst e
   rw [hm] at h
   cases h
   have:=hb rfl
   omega
  ·rw [List.getElem?_set_ne (fun h=>e h.symm)];exact h
 ·obtain ⟨z0,h3,_⟩:=src h
  exact ⟨z0,h3⟩
 ·obtain ⟨z0,h3,_⟩:=src h2
  exact .inr (.inr ⟨i,l,o,z0,hi,h1,h3,rfl⟩)
section
variable {P:Program} {k N:Nat} {c:Code} {T:Nat→AV} {M M':Ak} {Φ:Ex→St→Prop}
end
section
variable {P:Program} {T:Nat→AV} {M:Ak} {t t':TypeId} {x y:Operand}
theorem ACA{a:Nat}{kd:IntKind}{j:Nat}(hj:j≤63)(h:a*2^j≤9223372036854775807):binOp .shl t (.int .i64 (a:Int)) (.int kd (j:Int))=(pure (.int .i64 ((a*2^j:Nat):Int)):Sem Value):=by
 have h0:¬(j:Int)<0:=by omega
 have e:((a:Int)*2^j)=((a*2^j:Nat):Int):=by rw [Int.natCast_mul,Int.natCast_pow];rfl
 have hm:min j IntKind.i64.bits=j:=Nat.min_eq_left (by show j≤64;omega)
 show Op.shift .shl .i64 (a:Int) kd (j:Int)=_
 simp only [Op.shift,h0,if_false,Int.toNat_natCast,hm,e]
 rw [IntWalk.i64_in _ O_]
theorem wD{a:Nat}{kd:IntKind}{j:Nat}(hx:AC T x= .c (.val (.int .i64 (a:Int))))(hy:AC T y= .c (.val (.int kd (j:Int))))(hj:j≤63)(h:a*2^j≤9223372036854775807):AL P (AC T) M (.binOp .shl t x y t')=some ((.c (.val (.int .i64 ((a*2^j:Nat):Int))))):=
 B2 hx hy (ACA hj h)
theorem orN{a b:Nat}(ha:a<2^63)(hb:b<2^63):binOp .or t (.int .i64 (a:Int)) (.int .i64 (b:Int))=(pure (.int .i64 ((a ||| b:Nat):Int)):Sem Value):=by
 have h:a ||| b<2^63:=Nat.or_lt_two_pow ha hb
 have e:(BitVec.ofInt 64 (a:Int) ||| BitVec.ofInt 64 (b:Int)).toNat=a ||| b:=by
  rw [BitVec.toNat_or,BitVec.ofInt_natCast,BitVec.ofInt_natCast,BitVec.toNat_ofNat,BitVec.toNat_ofNat,Nat.mod_eq_of_lt O_,Nat.mod_eq_of_lt O_]
 show (pure (Value.int .i64 (IntKind.i64.wrap ((BitVec.ofInt 64 (a:Int) ||| BitVec.ofInt 64 (b:Int)).toNat:Nat))):Sem Value)=_
 rw [e,IntWalk.i64_in _ O_]
theorem AA6{a b:Nat}(hx:AC T x= .c (.val (.int .i64 (a:Int))))(hy:AC T y= .c (.val (.int .i64 (b:Int))))(ha:a<2^63)(hb:b<2^63):AL P (AC T) M (.binOp .or t x y t')=some ((.c (.val (.int .i64 ((a ||| b:Nat):Int))))):=
 B2 hx hy (orN ha hb)
end
section
variable {P:Program} {k:Nat} {c:Code} {s0:St} {Φ:Ex→St→Prop}
def yR(k:Nat)(keep:List Nat){σ:Type}(I:σ→St)(μ:σ→Nat)(inv:σ→Prop)(y:σ)(Φ:Ex→St→Prop):Ex→St→Prop
 |.normal,s=> ∃x,clean k keep s=some (I x)∧μ x<μ y∧inv x
 |e,s=>Φ e s
theorem DJ(keep:List Nat){σ:Type}(I:σ→St)(μ:σ→Nat)(inv:σ→Prop)(y0:σ)(h0:clean k keep s0=some (I y0))(hi:inv y0)(hstep:∀y,inv y→WC P k c (I y) (yR k keep I μ inv y Φ)):WC P k (.loop c) s0 Φ:=by
 refine U9 keep h0 ?_;have key:∀n y,μ y≤n→inv y→WC P k (.loop c) (I y) Φ:=by
  intro n
  induction n with
  |zero=>
   intro y hn hy
   obtain ⟨e,r,h1,h2⟩:=(hstep y hy).h
   cases e with
   |normal=>obtain ⟨x,_,h4,_⟩:=h2;omega
   |exit id=>exact ⟨⟨_,r,Ev.loopx h1 (by simp),h2⟩⟩
   |ret=>exact ⟨⟨_,r,Ev.loopx h1 (by simp),h2⟩⟩
  |succ n ih=>
   intro y hn hy
   obtain ⟨e,r,h1,h2⟩:=(hstep y hy).h
   cases e with
   |normal=>
    obtain ⟨x,h3,h4,h5⟩:=h2
    obtain ⟨e',r',h6,h7⟩:=(ih x O_ h5).h
    exact ⟨⟨e',r',Ev.loop h1 (Ev.clean keep h3 h6),h7⟩⟩
   |exit id=>exact ⟨⟨_,r,Ev.loopx h1 (by simp),h2⟩⟩
   |ret=>exact ⟨⟨_,r,Ev.loopx h1 (by simp),h2⟩⟩
 exact key _ y0 (Nat.le_refl _) hi
end
theorem fk{k:Nat}{ι:Emb}{M:Ak}{w w':World}{b:Nat}{l:Loc}{x:Arr}(hk:k≤M.length)(hR:R ι M w)(hb:ι b=some l)(hm:M[b]?=some (.row true x))(ho:w'.os=w.os)(ht:w'.tape=w.tape)(hu:w'.output=w.output)(hsz:w'.heap.size=w.heap.size)(hoth:∀c,c≠l.c→w'.heap[c]?=w.heap[c]?):
  Step k ι M w ⟨ι.f,fun c o v=>ι.tx c o v∨(c=l.c∧ ∃cs t fr,w'.heap[c]?=some (.cells cs t fr)∧cs[o]?=some v)⟩ (M.set b .dead) w':=by
 have hown:C5 ι M l.c:=⟨b,l,x,hb,hm,rfl⟩
 have hle:ι.le ⟨ι.f,fun c o v=>ι.tx c o v∨(c=l.c∧ ∃cs t fr,w'.heap[c]?=some (.cells cs t fr)∧cs[o]?=some v)⟩:=⟨fun _ _ h=>h,fun _ _ _ h=> .inl h⟩
 have src:∀ {i:Nat} {own:Bool} {y:Arr},(M.set b .dead)[i]?=some (.row own y)→i≠b∧M[i]?=some (.row own y):=fun {i own y} h=>by
  rcases CN h with ⟨h1,h2⟩ | ⟨_,h2⟩
  ·exact ⟨h1,h2⟩
  ·cases h2
 have apart:∀ {i:Nat} {l1:Loc} {own:Bool} {z:Arr},i≠b→ι i=some l1→M[i]?=some (.row own z)→l1.c≠l.c:=fun hne h1 k1=>hR.inj _ b _ l _ true _ x hne h1 hb k1 hm (.inr rfl)
 have keep:∀c,c<w.heap.size→ ¬C5 ι M c→w'.heap[c]?=w.heap[c]?:=fun c _ hn=>hoth c (fun e=>hn (by rw [e];exact hown))
 have fresh:∀c,C5 ι (M.set b .dead) c→w.heap.size≤c∨C5 ι M c:=fun c ⟨i,l1,y,h1,h2,h3⟩=> .inr ⟨i,l1,y,h1,(src h2).2,h3⟩
 refine ⟨⟨fun i hi=>hR.dom i (by simpa using hi),fun i l1 own y h1 h2=>?_,fun i i' l1 l1' own own' y y' hne h1 h2 h3 h4 ho=>?_,fun c Φ hc=>?_⟩,⟨ho,ht,hu,Nat.le_of_eq hsz.symm,keep,fun c hc=>fresh c hc⟩,fun _ _ _ h=> .inl h,fun c o v hc=>?_,fun _ _=>rfl,by simpa using hk,fun i y hi h=>?_,fun i own y hi h=>⟨y,(src h).2⟩,fun i l1 own y hi h1 h2=> .inr (.inr ⟨i,l1,own,y,hi,h1,(src h2).2,rfl⟩)⟩
 ·obtain ⟨hne,h3⟩:=src h2
  exact (hR.rows i l1 own y h1 h3).heap (hoth _ (apart hne h1 h3)) hle
 ·exact hR.inj i i' l1 l1' own own' y y' hne h1 h2 (src h3).2 (src h4).2 ho
 ·cases hc with
  |base kb=>exact Jn hR keep fresh c Φ (.base kb)
  |tx hc=>
   rcases hc with hc | ⟨rfl,cs,t,fr,h1,h2⟩
   ·exact Jn hR keep fresh c _ (.tx hc)
   ·refine ⟨⟨_,h1,cs,t,fr,rfl,h2⟩,fun i l' y h3 h4=>?_⟩
    obtain ⟨h5,h6⟩:=src h4
    exact apart h5 h3 h6
 ·rcases hc with hc | ⟨rfl,_⟩
  ·exact .inl hc
  ·exact .inr (.inr hown)
 ·rw [List.getElem?_set_ne (fun e=>by subst e;rw [hm] at h;cases h)];exact h
theorem eR{ι:Emb}{M:Ak}{w w':World}(hR:R ι M w){cs:Array Value}{t:TypeId}(hh:w'.heap=w.heap.push (.cells cs t (0,0)))(ho:w'.os=w.os)(ht:w'.tape=w.tape)(hu:w'.output=w.output):
  Step M.length ι M w ⟨ι.f,fun c o v=>ι.tx c o v∨(c=w.heap.size∧cs[o]?=some v)⟩ M w':=by
 have old:∀c,c<w.heap.size→w'.heap[c]?=w.heap[c]?:=fun c hc=>by rw [hh,Array.getElem?_push,if_neg O_]
 have hle:ι.le ⟨ι.f,fun c o v=>ι.tx c o v∨(c=w.heap.size∧cs[o]?=some v)⟩:=⟨fun _ _ h=>h,fun _ _ _ h=> .inl h⟩
 have keep:∀c,c<w.heap.size→ ¬C5 ι M c→w'.heap[c]?=w.heap[c]?:=fun c hc _=>old c hc
 refine ⟨⟨hR.dom,fun i l own y h1 h2=>(hR.rows i l own y h1 h2).heap (old _ (hR.lt h1 h2)) hle,hR.inj,fun c Φ hc=>?_⟩,⟨ho,ht,hu,by rw [hh];simp,keep,fun c hc=> .inr hc⟩,fun _ _ _ h=> .inl h,fun c o v hc=>?_,fun _ _=>rfl,Nat.le_refl _,fun _ _ _ h=>h,fun _ _ x _ h=>⟨x,h⟩,fun b l own x hb h1 h2=>(H9 hb h2).elim⟩
 ·cases hc with
  |base kb=>exact Jn hR keep (fun c hc=> .inr hc) c Φ (.base kb)
  |tx hc=>
   rcases hc with hc | ⟨rfl,h2⟩
   ·exact Jn hR keep (fun c hc=> .inr hc) c _ (.tx hc)
   ·exact ⟨⟨_,by rw [hh,Array.getElem?_push,if_pos rfl],cs,t,(0,0),rfl,h2⟩,fun b l x h1 h3 e=>by have:=hR.lt h1 h3;omega⟩
 ·rcases hc with hc | ⟨rfl,_⟩
  ·exact .inl hc
  ·exact .inr (.inl (Nat.le_refl _))
def Vy(n:Nat)(ι:Emb):Emb:=⟨fun b=>if b<n then ι b else none,ι.tx⟩
def Vm(n b:Nat):Option Nat:=if b<n then some b else none
theorem df(n:Nat)(ι:Emb):Same (Vm n) ι (Vy n ι):=by
 refine ⟨fun b b' h=>?_,fun _ _ _ h=>h⟩
 unfold Vm at h
 split at h
 ·rename_i hb
  cases h
  exact if_pos hb
 ·cases h
theorem lK{n:Nat}{x:Arr}(h:x.refs.all (· <n)=true):x.ren (Vm n)=x:=by
 cases x with
 |ac l=>
  simp only [Arr.refs,List.all_eq_true,List.mem_flatMap,decide_eq_true_eq] at h
  simp only [Arr.ren]
  congr 1
  conv=>rhs;rw [←List.map_id l]
  apply List.map_congr_left
  intro c hc
  have e:∀b,b<n→Vm n b=some b:=fun b hb=>if_pos hb
  cases c with
  |ptr b o=>simp only [Cell.ren,e _ (h b ⟨_,hc,by simp [Cell.refs]⟩),id]
  |sl b o n c z=>simp only [Cell.ren,e _ (h b ⟨_,hc,by simp [Cell.refs]⟩),id]
  |mp b=>simp only [Cell.ren,e _ (h b ⟨_,hc,by simp [Cell.refs]⟩),id]
  |xs b n=>simp only [Cell.ren,e _ (h b ⟨_,hc,by simp [Cell.refs]⟩),id]
  |_=>rfl
 |_=>rfl
def YZ(n:Nat)(M:Ak):Bool:=M.all fun r=>r.refs.all (· <n)
theorem pP{k:Nat}{ι:Emb}{M N:Ak}{w:World}(hk:k≤M.length)(hR:R ι (M++N) w)(hr:YZ M.length M=true):Step k ι (M++N) w (Vy M.length ι) M w:=by
 have at_:∀ {b:Nat} {l:Loc},Vy M.length ι b=some l→b<M.length∧ι b=some l:=fun {b l} h=>by
  unfold Vy at h
  dsimp only at h
  split at h
  ·rename_i hb;exact ⟨hb,h⟩
  ·cases h
 have row:∀ {b:Nat} {own:Bool} {x:Arr},M[b]?=some (.row own x)→(M++N)[b]?=some (.row own x):=fun {b own x} h=>by
  rw [List.getElem?_append_left (List.getElem?_eq_some_iff.1 h).1];exact h
 have fresh:∀c,C5 (Vy M.length ι) M c→w.heap.size≤c∨C5 ι (M++N) c:=fun c ⟨b,l,x,h1,h2,h3⟩=> .inr ⟨b,l,x,(at_ h1).2,row h2,h3⟩
 refine ⟨⟨fun b hb=>if_neg O_,fun b l own x h1 h2=>?_,fun b b' l l' own own' x x' hne h1 h2 h3 h4 ho=>hR.inj b b' l l' own own' x x' hne (at_ h1).2 (at_ h2).2 (row h3) (row h4) ho,fun c Φ hc=>Jn hR (fun _ _ _=>rfl) fresh c Φ (hc.to ι)⟩,⟨rfl,rfl,rfl,Nat.le_refl _,fun _ _ _=>rfl,fresh⟩,fun _ _ _ h=>h,fun _ _ _ h=> .inl h,fun b hb=>if_pos O_,hk,fun b x hb h=>?_,fun b own x hb h=>⟨x,row h⟩,fun b l own x hb h1 h2=> .inr (.inr ⟨b,l,own,x,hb,(at_ h1).2,row h2,rfl⟩)⟩
 ·have h3:=(hR.rows b l own x (at_ h1).2 (row h2)).ren (df M.length ι)
  have hx:x.refs.all (· <M.length)=true:=List.all_eq_true.1 hr _ (List.mem_of_getElem? h2)
  rwa [lK hx] at h3
 ·rwa [List.getElem?_append_left O_] at h
theorem pz{P:Program}{op:Op}{e:Operand→AV}{m N:Ak}{v:AV}(h:Ev P (.op op e m) (.val v (m++N)))(hr:YZ m.length m=true)(hv:v.ren (Vm m.length)=v):Ev P (.op op e m) (.val v m):=
 Ev.opPost h fun ι w u hk hR hu=>⟨_,by have:=AV.ren_rel (df m.length ι) hu;rwa [hv] at this,pP (Nat.le_refl _) hR hr⟩
section
variable {P:Program} {e:Operand→AV} {M M':Ak} {t t' el:TypeId}
theorem gf{l:AB 8}{by' len n:Nat}{ps:Array (Nat×Operand)}(hu:P.underlying t=some (.slice el))(he:Bi P el=some (1,by'))(hd:Eg 0 (ps.toList.map fun p=>(p.1,e p.2))=some (l.map U8))(hl:ps.toList.length=len)(h0:¬len=0)(h1:len≤16777216)(hn:M.length=n):
  Ev P (.op (.buildSlice t len ps) e M) (.val (.c (.xs n len)) (M++[.row true (.a8 l)])):=
 Ev.sem fun O ι w ρ hO hR hρ=>by
  obtain ⟨dst,op,ty,pos,af,gd⟩:=O
  subst hO;subst hn
  obtain ⟨i,z,hi,hz,hs1,hb1,hzs,hsz⟩:=Ip he
  have hpr:=JX (e:=e) (ρ:=ρ) ps.toList fun p hp=>hρ p.2 (by simp [Op.operands];exact ⟨p.1,by simpa using hp⟩)
  have e1:(ps.map fun (i,x)=>(i,ρ x)).toList=ps.toList.map fun p=>(p.1,ρ p.2):=Array.toList_map
  rw [←e1] at hpr
  obtain ⟨g1,g2⟩:=JY hd hpr
  have hlen:l.length=len:=by
   have:=Dq hd
   rw [List.length_map,List.length_map,hl] at this
   exact this
  have hrun:=run_buildSlice (P:=P) w t el len (ps.map fun (i,x)=>(i,ρ x)) (l.map U8).toArray i z hu hi hz (by rw [hs1];omega) (by rw [hs1];omega) (by rw [g1,hs1];exact RJ g2 (by simp;omega))
  have hst:=Gu (w':=w.alloc (.cells (l.map U8).toArray el)) (x:= .a8 l) (t:=el) hR (cs:=(l.map U8).toArray) rfl rfl rfl rfl (by simp [Arr.size]) (fun j hj=>⟨U8 (nth l j),by
   have hj:j<l.length:=hj
   rw [Nat.zero_add,Qj l j hj]
   simp [hj],rfl⟩) rfl
  exact .inl ⟨.slice (some ⟨w.heap.size,0,none⟩) len len,_,_,.inl (by simp [execOp,hrun]),⟨_,Emb.upd_eq _ _ _,rfl⟩,hst.1⟩
theorem gn{x:Operand}{b n:Nat}{l:AB 8}(hx:e x= .c (.xs b n))(ht:P.underlying t=some (.slice el))(he:P.underlying el=some (.int .u8))(hm:M[b]?=some (.row true (.a8 l)))(hn:l.length=n)(hM:M.set b .dead=M'):
  Ev P (.op (.convert t t x) e M) (.val (.c (.lb l)) M'):=
 Ev.sem fun O ι w ρ hO hR hρ=>by
  obtain ⟨dst,op,ty,pos,af,gd⟩:=O
  subst hO;subst hM;subst hn
  have h1:=hρ x (by simp [Op.operands])
  rw [hx] at h1
  obtain ⟨lc,hl,hv⟩:=h1
  obtain ⟨cs,tt,fr,k1,k2,k3,k4⟩:=hR.cells hl hm rfl
  have hsh:w.shape? lc.c=some (tt,cs.size):=by simp only [World.shape?,k1]
  have hrun:(convert t t (.slice (some ⟨lc.c,lc.off,none⟩) l.length l.length)).run P w= .ok (.slice (some ⟨lc.c,lc.off,none⟩) l.length l.length) (w.freeze ⟨lc.c,cs.size,none⟩ 1):=by
   simp [convert,run_underlying ht,run_underlying he,markStringish,hsh]
  have hw:(w.freeze ⟨lc.c,cs.size,none⟩ 1).os=w.os∧(w.freeze ⟨lc.c,cs.size,none⟩ 1).tape=w.tape∧(w.freeze ⟨lc.c,cs.size,none⟩ 1).output=w.output∧(w.freeze ⟨lc.c,cs.size,none⟩ 1).heap.size=w.heap.size:=by
   unfold World.freeze
   rw [if_neg O_]
   exact ⟨rfl,rfl,rfl,by simp⟩
  have hoth:∀c,c≠lc.c→(w.freeze ⟨lc.c,cs.size,none⟩ 1).heap[c]?=w.heap[c]?:=fun c hc=>by
   unfold World.freeze
   rw [if_neg O_]
   simp only [Array.getElem?_modify]
   rw [if_neg (fun h=>hc h.symm)]
  have hat:∃fr',(w.freeze ⟨lc.c,cs.size,none⟩ 1).heap[lc.c]?=some (.cells cs tt fr'):=by
   unfold World.freeze
   rw [if_neg O_]
   simp only [Array.getElem?_modify,if_true,k1]
   exact ⟨_,rfl⟩
  obtain ⟨fr',hat⟩:=hat
  have hst:=fk (Nat.le_refl _) hR hl hm hw.1 hw.2.1 hw.2.2.1 hw.2.2.2 hoth
  refine .inl ⟨.slice (some ⟨lc.c,lc.off,none⟩) l.length l.length,_,_,.inl (by simp [execOp,hv,hrun]),⟨⟨some ⟨lc.c,lc.off,none⟩,l.length,rfl,Nat.le_refl _,?_⟩,some ⟨lc.c,lc.off,none⟩,rfl⟩,hst⟩
  by_cases h0:l.length=0
  ·exact .inl h0
  ·refine .inr ⟨lc.c,lc.off,rfl,⟨lc.off,U8 (nth l 0),.inr ⟨rfl,cs,tt,fr',hat,?_⟩⟩,fun i hi=> .inr ⟨rfl,cs,tt,fr',hat,?_⟩⟩
   ·obtain ⟨u,e1,e2⟩:=k3 0 (by show 0<l.length;omega)
    obtain rfl:u=U8 (nth l 0):=e2
    exact e1
   ·obtain ⟨u,e1,e2⟩:=k3 i hi
    obtain rfl:u=U8 (nth l i):=e2
    exact e1
theorem oA{s x:Operand}{l y:AB 8}{n by':Nat}(hs:e s= .c (.lb l))(hx:Eo M 1 (e x)=some (n,.a8 y))(hu:P.underlying t=some (.slice el))(hu2:P.underlying t'=some (.slice el))(he:Bi P el=some (1,by'))(hb:(l.length+n)*by'≤140737488355328∧l.length+n≤9223372036854775807):
  Ev P (.op (.call { callee:= .builtin .append,args:= #[s,x],argTypes:= #[t,t'] }) e M) (.val (.c (.bs (l++y))) M):=
 Ev.sem fun O ι w ρ hO hR hρ=>by
  obtain ⟨dst,op,ty,pos,af,gd⟩:=O
  subst hO
  have h1:=hρ s (by simp [Op.operands,Call.operands])
  have h2:=hρ x (by simp [Op.operands,Call.operands])
  rw [hs] at h1
  obtain ⟨hst,pp,hp⟩:=h1
  obtain ⟨i,z,hi,hz,hs1,hb1,hzs,hsz⟩:=Ip he
  obtain ⟨qa,c,news,hq,hnc,hsh⟩:=K2 hx O_ hR h2
  obtain ⟨pp',cp,olds,hp',hle,hold⟩:=Q8 (M:=M) (y:= .a8 l) (g:=fun i=>U8 (nth l i)) rfl hR hst fun i hi=>rfl
  rw [hp] at hp'
  cases hp'
  have hyn:y.length=n:=by have:=hsh.size;simpa [Arr.size] using this
  have hol:olds.length=l.length:=by have:=hold.len;rw [Nat.mul_one] at this;exact this
  have hnl:news.length=n:=by have:=hsh.len;simpa using this
  have nt:Et P t'=true:=by simp [Et,hu2]
  rcases KY (P:=P) (w:=w) t t' ty el i z hu nt hi hz pp qa l.length l.length n c olds news (fun w' hw=>by rw [hs1];exact hold.first P l.length w' hw) (fun w' hw=>by rw [hs1];exact hsh.first P c w' hw) (by rw [hb1];exact hb.1) hb.2 with ⟨hr,er⟩ | ⟨hr,cap',hcap,er⟩
  ·obtain rfl:n=0:=by omega
   obtain rfl:y=[]:=List.eq_nil_of_length_eq_zero hyn
   obtain rfl:news=[]:=List.eq_nil_of_length_eq_zero hnl
   refine .inl ⟨.slice pp l.length l.length,w,ι,.inl ?_,?_,Step.refl hR (Nat.le_refl _)⟩
   ·cases pp<;>simp [execOp,resolve,invoke,builtin,hp,hq,er,storeCells]
   ·rw [List.append_nil]
    rw [hp] at hst
    exact hst
  ·have hsta:=eR (w':=w.drew.alloc (.cells (olds.toArray++news.toArray++Builtin.zeroCells z.cells (cap'-(l.length+n))) el)) (t:=el) hR (cs:=olds.toArray++news.toArray++Builtin.zeroCells z.cells (cap'-(l.length+n))) rfl rfl rfl rfl
   refine .inl ⟨.slice (some ⟨w.heap.size,0,none⟩) (l.length+n) cap',_,_,.inl ?_,?_,hsta⟩
   ·simp [execOp,resolve,invoke,builtin,hp,hq,er]
   ·have cell:∀j,j<(l++y).length→(olds.toArray++news.toArray++Builtin.zeroCells z.cells (cap'-(l.length+n)))[j]?=some (U8 (nth (l++y) j)):=by
     intro j hj
     rw [List.length_append,hyn] at hj
     rw [Array.getElem?_append_left (by simp;omega)]
     by_cases hjl:j<l.length
     ·rw [Array.getElem?_append_left (by simp;omega)]
      obtain ⟨u,e1,e2⟩:=hold.rel j hjl
      obtain rfl:u=U8 (nth l j):=e2
      rw [show nth (l++y) j=nth l j by unfold nth;rw [Gd,if_pos hjl]]
      simpa using e1
     ·rw [Array.getElem?_append_right (by simp;omega)]
      obtain ⟨u,e1,e2⟩:=hsh.rel (j-l.length) (by show _<y.length;omega)
      obtain rfl:u=U8 (nth y (j-l.length)):=e2
      rw [show nth (l++y) j=nth y (j-l.length) by unfold nth;rw [Gd,if_neg hjl]]
      simp only [List.size_toArray,hol]
      simpa using e1
    have hlen:(l++y).length=l.length+n:=by rw [List.length_append,hyn]
    refine ⟨_,cap',by rw [hlen],by omega,.inr ⟨w.heap.size,0,rfl,⟨0,U8 (nth (l++y) 0),.inr ⟨rfl,?_⟩⟩,fun j hj=> .inr ⟨rfl,?_⟩⟩⟩
    ·exact cell 0 O_
    ·rw [Nat.zero_add];exact cell j hj
end
def Region.okChain(ops:Array Oper)(cs:List Nat)(size:Nat):Bool:=
 Region.okX ops ops.size size&&(List.range ops.size).all fun i=>match ops[i]? with
  |some o=>o.guard.isNone&&(!cs.contains i || (List.range ops.size).all fun j=> !cs.contains j || !decide (i<j) || Te ops j i)&&o.after.all fun e=> !Region.binds .any e || decide (e.on<i)
  |none=>true
structure zt(ops:Array Oper)(cs:List Nat)(size:Nat):Prop where
 ok:mS ops ops.size size
 guard:∀(i:Nat) (o:Oper),ops[i]?=some o→o.guard=none
 chain:∀(i j:Nat),i<j→j<ops.size→cs.contains i=true→cs.contains j=true→Te ops j i=true
 back:∀(i:Nat) (o:Oper) (e:Edge),ops[i]?=some o→e∈o.after→Region.binds .any e=true→e.on<i
theorem Region.okChain_spec{ops:Array Oper}{cs:List Nat}{size:Nat}(h:Region.okChain ops cs size=true):zt ops cs size:=by
 simp only [Region.okChain,Bool.and_eq_true,List.all_eq_true,List.mem_range] at h
 obtain ⟨h1,h2⟩:=h
 have lt:∀ {i:Nat} {o:Oper},ops[i]?=some o→i<ops.size:=fun ho=>(Array.getElem?_eq_some_iff.1 ho).1
 refine ⟨Region.okX_spec h1,fun i o ho=>?_,fun i j hij hj hs hs'=>?_,fun i o e ho he hb=>?_⟩
 ·have:=h2 i (lt ho)
  rw [ho] at this
  simp only [Bool.and_eq_true,Option.isNone_iff_eq_none] at this
  exact this.1.1
 ·have:=h2 i O_
  rw [Array.getElem?_eq_getElem (show i<ops.size by omega)] at this
  simp only [Bool.and_eq_true,Bool.or_eq_true,hs,Bool.not_true,Bool.false_eq_true,false_or,List.all_eq_true,List.mem_range] at this
  have:=this.1.2 j hj
  rw [hs'] at this
  simpa [hij] using this
 ·have:=h2 i (lt ho)
  rw [ho] at this
  simp only [Bool.and_eq_true] at this
  have:=Array.all_eq_true_iff_forall_mem.1 this.2 e he
  simpa [hb] using this
def OL(P:Program)(o:Oper)(e:Operand→AV)(m:Ak)(v:AV):Prop:= ∀(ι:Emb) (w:World) (ρ:Operand→Value),R ι m w→(∀x∈o.op.operands,(e x).rel ι (ρ x))→Th P ρ o ι m w v m
structure Hh(P:Program)(ops:Array Oper)(cs:List Nat)(A:Nat→St)(V:Nat→AV)(N0:Nat):Prop where
 h0:(A 0).n=N0
 pure:∀(i:Nat) (o:Oper),ops[i]?=some o→cs.contains i=false→(∀c,c≤ops.size→(∀j,j<c→cs.contains j=true→Te ops j i=false)→OL P o (AC (A i).t) (A c).m (V i))∧A (i+1)=⟨N0,Ce (A i).t o.dst (V i),(A i).m⟩
 chain:∀(i:Nat) (o:Oper),ops[i]?=some o→cs.contains i=true→ ∃m',O7 P (.op o.op (AC (A i).t) (A i).m) (.val (V i) m')∧A (i+1)=⟨N0,Ce (A i).t o.dst (V i),m'⟩
section
variable {P:Program} {ops:Array Oper} {cs:List Nat} {A:Nat→St} {V:Nat→AV} {N0:Nat}
theorem Hh.next(h:Hh P ops cs A V N0){i:Nat}{o:Oper}(ho:ops[i]?=some o):∃m',A (i+1)=⟨N0,Ce (A i).t o.dst (V i),m'⟩:=by
 cases hs:cs.contains i with
 |true=>obtain ⟨m',_,e⟩:=h.chain i o ho hs;exact ⟨m',e⟩
 |false=>exact ⟨_,(h.pure i o ho hs).2⟩
theorem Hh.tmp1(h:Hh P ops cs A V N0){i:Nat}(hi:i<ops.size){t:Nat}(ht:BL ops i≠some t):(A (i+1)).t t=(A i).t t:=by
 have ho:ops[i]?=some (ops[i]'hi):=Array.getElem?_eq_getElem hi
 have hd:BL ops i=(ops[i]'hi).dst:=by simp [BL,ho]
 rw [hd] at ht
 obtain ⟨m',e⟩:=h.next ho
 rw [e]
 show Ce (A i).t (ops[i]'hi).dst (V i) t=_
 cases hdd:(ops[i]'hi).dst with
 |none=>rfl
 |some d=>rw [hdd] at ht;exact upd_ne _ _ (fun e=>ht (by rw [e]))
theorem Hh.slot(h:Hh P ops cs A V N0){i t:Nat}:∀d,i+d≤ops.size→(∀j,i≤j→j<i+d→BL ops j≠some t)→(A (i+d)).t t=(A i).t t
 |0,_,_=>rfl
 |d+1,hd,hno=>by
  rw [show i+(d+1)=i+d+1 by omega,h.tmp1 O_ (hno _ O_ O_),Hh.slot h d O_ fun j h1 h2=>hno j h1 O_]
theorem Hh.slot'(h:Hh P ops cs A V N0){i j t:Nat}(hij:i≤j)(hj:j≤ops.size)(hno:∀l,i≤l→l<j→BL ops l≠some t):(A j).t t=(A i).t t:=by
 have:=h.slot (i:=i) (t:=t) (j-i) O_ (fun l h1 h2=>hno l h1 O_)
 rwa [show i+(j-i)=j by omega] at this
theorem Hh.mem(h:Hh P ops cs A V N0){i:Nat}:∀d,i+d≤ops.size→(∀j,i≤j→j<i+d→cs.contains j=false)→(A (i+d)).m=(A i).m
 |0,_,_=>rfl
 |d+1,hd,hno=>by
  have hlt:i+d<ops.size:=by omega
  have ho:ops[i+d]?=some (ops[i+d]'hlt):=Array.getElem?_eq_getElem hlt
  obtain ⟨_,e⟩:=h.pure (i+d) _ ho (hno _ O_ O_)
  rw [show i+(d+1)=i+d+1 by omega,e]
  exact Hh.mem h d O_ fun j h1 h2=>hno j h1 O_
theorem Hh.mem'(h:Hh P ops cs A V N0){i j:Nat}(hij:i≤j)(hj:j≤ops.size)(hno:∀l,i≤l→l<j→cs.contains l=false):(A j).m=(A i).m:=by
 have:=h.mem (i:=i) (j-i) O_ (fun l h1 h2=>hno l h1 O_)
 rwa [show i+(j-i)=j by omega] at this
structure UW(ops:Array Oper)(cs:List Nat)(A:Nat→St)(k:Nat)(ι0:Emb)(w0:World)(a0:Act)(listed:Array Bool)(ι:Emb)(a:Act)(w:World):Prop where
 cut:∃j,j≤ops.size∧(∀i,i<ops.size→cs.contains i=true→(listed.getD i false=true↔i<j))∧Step k ι0 (A 0).m w0 ι (A j).m w
 le:ι0.le ι
 hit:∀j,j<ops.size→listed.getD j false=true→ ∀d,BL ops j=some d→((A (j+1)).t d).rel ι (a.tmps.getD d undef)
 miss:∀t,(∀j,j<ops.size→listed.getD j false=true→BL ops j≠some t)→a.tmps.getD t undef=a0.tmps.getD t undef
 size:a.tmps.size=a0.tmps.size
 defers:a.defers=a0.defers
 head:HeadInv .any ops ops.size listed
theorem UW.agree(hl:Hh P ops cs A V N0){k:Nat}{ι0:Emb}{w0:World}{a0:Act}(hok:mS ops ops.size a0.tmps.size)(hf:DT ι0 (A 0) a0){listed:Array Bool}{ι:Emb}{a:Act}{w:World}(h:UW ops cs A k ι0 w0 a0 listed ι a w)
  {i:Nat} (hin:i<ops.size) {o:Oper} (ho:ops[i]?=some o) (hb:∀j,Te ops i j=true→listed.getD j false=true) (hun:listed.getD i false=false):
  ∀t∈o.looksAt ops,((A i).t t).rel ι (a.tmps.getD t undef):=by
 intro t ht
 by_cases hex:∃j,j<ops.size∧BL ops j=some t
 ·obtain ⟨j,hj,hd⟩:=hex
  rcases hok.look i o t j hin ho ht hj hd with ⟨hji,hbij⟩ | ⟨hij,hbji⟩
  ·have hlj:=hb j hbij
   rw [hl.slot' (i:=j+1) O_ (Nat.le_of_lt hin) (fun l h1 h2 hd'=>by have:=hok.uniq l j t O_ hj hd' hd;omega)]
   exact h.hit j hj hlj t hd
  ·have hnl:listed.getD j false≠true:=fun hlt=>by
    have:=Dm h.head.closed hbji (Array.getElem?_eq_getElem hj) (h.head.closed j _ (Array.getElem?_eq_getElem hj) hlt)
    rw [hun] at this;cases this
   rw [h.miss t (fun j' hj' hl' hd'=>hnl (by rw [←hok.uniq j' j t hj' hj hd' hd];exact hl')),hl.slot' (i:=0) (Nat.zero_le i) (Nat.le_of_lt hin) (fun l _ h2 hd'=>by have:=hok.uniq l j t O_ hj hd' hd;omega)]
   exact AV.rel_mono h.le (hf.rel t)
 ·have hno:∀j,j<ops.size→BL ops j≠some t:=fun j hj hd=>hex ⟨j,hj,hd⟩
  rw [h.miss t (fun j hj _=>hno j hj),hl.slot' (i:=0) (Nat.zero_le i) (Nat.le_of_lt hin) (fun l _ h2=>hno l O_)]
  exact AV.rel_mono h.le (hf.rel t)
theorem UW.next{k:Nat}{ι0:Emb}{w0:World}{a0:Act}(hok:mS ops ops.size a0.tmps.size){listed:Array Bool}{ι ι':Emb}{a:Act}{w:World}(h:UW ops cs A k ι0 w0 a0 listed ι a w)(hle:ι.le ι')
  {i:Nat} (hi:i∈Region.ready .any ops listed) {o:Oper} (ho:ops[i]?=some o) {u:Value} {w':World}
  (hcut:∃j,j≤ops.size∧(∀i',i'<ops.size→cs.contains i'=true→((listed.setIfInBounds i true).getD i' false=true↔i'<j))∧Step k ι0 (A 0).m w0 ι' (A j).m w')
  (hu:∀d,o.dst=some d→((A (i+1)).t d).rel ι' u):UW ops cs A k ι0 w0 a0 (listed.setIfInBounds i true) ι' (a.put o.dst u) w':=by
 have hin:i<ops.size:=(Array.getElem?_eq_some_iff.1 ho).1
 have his:i<listed.size:=by rw [h.head.size];exact hin
 have hd:BL ops i=o.dst:=by simp [BL,ho]
 have hset:∀j,(listed.setIfInBounds i true).getD j false=true→j=i∨listed.getD j false=true:=fun j hj=>by
  by_cases hji:i=j
  ·exact .inl hji.symm
  ·rw [getD_set_ne false hji] at hj;exact .inr hj
 have hseti:(listed.setIfInBounds i true).getD i false=true:=by simp [his]
 refine ⟨hcut,⟨fun b l hb=>hle.f b l (h.le.f b l hb),fun c o v hc=>hle.tx c o v (h.le.tx c o v hc)⟩,fun j hj hlj d hdj=>?_,fun t ht=>?_,by rw [show (a.put o.dst u).tmps.size=a.tmps.size by cases o.dst<;>simp [Act.put]];exact h.size,by rw [show (a.put o.dst u).defers=a.defers by cases o.dst<;>rfl];exact h.defers,h.head.set hi hin⟩
 ·by_cases hji:j=i
  ·subst hji
   rw [hd] at hdj
   rw [hdj,O5 a d d u (by rw [h.size];exact hok.lt j d hj (by rw [hd];exact hdj)),if_pos rfl]
   exact hu d hdj
  ·have hlj':=(hset j hlj).resolve_left hji
   have hne:o.dst≠some d:=fun e=>hji (hok.uniq j i d hj hin hdj (by rw [hd];exact e))
   rw [Jo a u hne]
   exact AV.rel_mono hle (h.hit j hj hlj' d hdj)
 ·have h1:o.dst≠some t:=by rw [←hd];exact ht i hin hseti
  rw [Jo a u h1]
  exact h.miss t fun j hj hlj=>ht j hj (getD_set_true hlj)
theorem UW.run{Q':Exit→Act→World→Prop}(hl:Hh P ops cs A V N0){k:Nat}{ι0:Emb}{w0:World}{a0:Act}(hS:zt ops cs a0.tmps.size)(hf:DT ι0 (A 0) a0){listed:Array Bool}{ι:Emb}{a:Act}{w:World}(h:UW ops cs A k ι0 w0 a0 listed ι a w)
  {i:Nat} (hi:i∈Region.ready .any ops listed) {K:Act→World→Prop} (hK:∀ι' a' w',UW ops cs A k ι0 w0 a0 (listed.setIfInBounds i true) ι' a' w'→K a' w'):wpOp P ops Q' i K a w:=by
 have hok:=hS.ok
 have hr:=mem_ready.1 hi
 have hun:listed.getD i false=false:=getD_both hr.1
 obtain ⟨_,o,ho,hall⟩:=hr
 have hin:i<ops.size:=(Array.getElem?_eq_some_iff.1 ho).1
 have hd:BL ops i=o.dst:=by simp [BL,ho]
 have hdeps:∀j,Te ops i j=true→listed.getD j false=true:=fun j hb=>Dm h.head.closed hb ho hall
 have hag:=h.agree hl hok hf hin ho hdeps hun
 have hopnd:∀x∈o.op.operands,(AC (A i).t x).rel ι (a.eval x):=by
  intro x hx
  cases x with
  |tmp t=>exact hag t (List.mem_append_left _ (List.mem_filterMap.2 ⟨.tmp t,by simpa using hx,rfl⟩))
  |const v=>exact AV.rel_of0 (Ox _ v)
  |global g=>trivial
  |func f=>rfl
 obtain ⟨c,hc,hcl,hst⟩:=h.cut
 have his:i<listed.size:=by rw [h.head.size];exact hin
 unfold wpOp
 simp only [ho]
 rw [show Region.wanted o (yielded ops a.tmps)=true by unfold Region.wanted;rw [hS.guard i o ho],if_pos rfl]
 refine .inl ?_;have hval:∀ {ι':Emb} {u:Value},(V i).rel ι' u→ ∀d,o.dst=some d→((A (i+1)).t d).rel ι' u:=fun hv d hdd=>by
  obtain ⟨m',e⟩:=hl.next ho
  rw [e]
  show (Ce (A i).t o.dst (V i) d).rel _ _
  rw [hdd]
  show (upd (A i).t d (V i) d).rel _ _
  rw [upd_eq]
  exact hv
 cases hs:cs.contains i with
 |false=>
  obtain ⟨hv,hstep⟩:=hl.pure i o ho hs
  have hfree:∀j,j<c→cs.contains j=true→Te ops j i=false:=fun j hj hs'=>by
   have hjn:j<ops.size:=by omega
   have hlj:=(hcl j hjn hs').2 hj
   cases hb:Te ops j i with
   |false=>rfl
   |true=>
    have:=Dm h.head.closed hb (Array.getElem?_eq_getElem hjn) (h.head.closed j _ (Array.getElem?_eq_getElem hjn) hlj)
    rw [hun] at this;cases this
  refine (hv c hc hfree ι w a.eval hst.r hopnd).wp rfl fun u w' ι1 hv1 hst2=>?_
  refine hK ι1 _ _ (h.next hok (hst2.le hst.r) hi ho ⟨c,hc,fun i' hi' hs'=>?_,hst.comp (hst2.low hst.len)⟩ (hval hv1))
  have hne:i≠i':=fun e=>by subst e;rw [hs] at hs';cases hs'
  rw [getD_set_ne false hne]
  exact hcl i' hi' hs'
 |true=>
  obtain ⟨m',hv,hstep⟩:=hl.chain i o ho hs
  have hci:c≤i:=by
   have:=(hcl i hin hs).2
   rcases Nat.lt_or_ge i c with h' | h'
   ·rw [this h'] at hun;cases hun
   ·exact h'
  have hm:(A i).m=(A c).m:=by
   refine hl.mem' hci (Nat.le_of_lt hin) fun l h1 h2=>?_
   cases hs':cs.contains l with
   |false=>rfl
   |true=>
    have:=(hcl l O_ hs').1 (hdeps l (hS.chain l i h2 hin hs' hs))
    omega
  rw [←hm] at hst
  refine (hv o ι w a.eval rfl hst.r hopnd).wp rfl fun u w' ι1 hv1 hst2=>?_
  have hst3:Step k ι0 (A 0).m w0 ι1 (A (i+1)).m w':=by
   rw [hstep]
   exact hst.comp (hst2.low hst.len)
  refine hK ι1 _ _ (h.next hok (hst2.le hst.r) hi ho ⟨i+1,hin,fun i' hi' hs'=>?_,hst3⟩ (hval hv1))
  by_cases hne:i=i'
  ·subst hne;simp [his]
  ·rw [getD_set_ne false hne]
   constructor
   ·intro hli
    rcases Nat.lt_or_ge i' (i+1) with h' | h'
    ·exact h'
    ·have:=Dm h.head.closed (hS.chain i i' O_ hi' hs hs') (Array.getElem?_eq_getElem hi') (h.head.closed i' _ (Array.getElem?_eq_getElem hi') hli)
     rw [hun] at this;cases this
   ·intro hlt
    exact hdeps i' (hS.chain i' i O_ hin hs' hs)
theorem UW.any{Q':Exit→Act→World→Prop}(hl:Hh P ops cs A V N0){k:Nat}{ι0:Emb}{w0:World}{a0:Act}(hS:zt ops cs a0.tmps.size)(hf:DT ι0 (A 0) a0)
  (hQ:∀ι' a' w',DT ι' (A ops.size) a'→a'.defers=a0.defers→Step k ι0 (A 0).m w0 ι' (A ops.size).m w'→Q' .normal a' w'):
  ∀(f:Nat) (un:List Nat) (listed:Array Bool) (ι:Emb) (a:Act) (w:World),un.length=f→un.Nodup→(∀j,j∈un↔j<ops.size∧listed.getD j false=false)→UW ops cs A k ι0 w0 a0 listed ι a w→wpAny P .any ops Q' f listed a w:=by
 have hok:=hS.ok
 intro f
 induction f with
 |zero=>
  intro un listed ι a w hlu _ hun h
  obtain rfl:un=[]:=List.length_eq_zero_iff.1 hlu
  have hdone:∀j,j<ops.size→listed.getD j false=true:=fun j hj=>by
   cases hb:listed.getD j false with
   |true=>rfl
   |false=>have:=(hun j).2 ⟨hj,hb⟩;simp at this
  have hnil:Region.ready .any ops listed=[]:=by
   cases hr:Region.ready .any ops listed with
   |nil=>rfl
   |cons x xs=>
    have hx:x∈Region.ready .any ops listed:=by rw [hr];exact List.mem_cons_self
    obtain ⟨h1,o,ho,_⟩:=mem_ready.1 hx
    have:=hdone x (Array.getElem?_eq_some_iff.1 ho).1
    rw [getD_both h1] at this;cases this
  refine ⟨hnil,?_⟩
  obtain ⟨c,hc,hcl,hst⟩:=h.cut
  have hm:(A ops.size).m=(A c).m:=by
   refine hl.mem' hc (Nat.le_refl _) fun l h1 h2=>?_
   cases hs':cs.contains l with
   |false=>rfl
   |true=>have:=(hcl l h2 hs').1 (hdone l h2);omega
  rw [←hm] at hst
  have hnn:(A ops.size).n=N0:=by
   cases hz:ops.size with
   |zero=>exact hl.h0
   |succ z=>
    have hlt:z<ops.size:=by omega
    obtain ⟨m',e⟩:=hl.next (Array.getElem?_eq_getElem hlt)
    rw [e]
  refine hQ ι a w ⟨by rw [h.size,hf.size,hl.h0,hnn],fun t=>?_⟩ h.defers hst
  by_cases hex:∃j,j<ops.size∧BL ops j=some t
  ·obtain ⟨j,hj,hd⟩:=hex
   rw [hl.slot' (i:=j+1) O_ (Nat.le_refl _) (fun l h1 h2 hd'=>by have:=hok.uniq l j t O_ hj hd' hd;omega)]
   exact h.hit j hj (hdone j hj) t hd
  ·have hno:∀j,j<ops.size→BL ops j≠some t:=fun j hj hd=>hex ⟨j,hj,hd⟩
   rw [h.miss t (fun j hj _=>hno j hj),hl.slot' (i:=0) (Nat.zero_le _) (Nat.le_refl _) (fun l _ h2=>hno l O_)]
   exact AV.rel_mono h.le (hf.rel t)
 |succ f ih=>
  intro un listed ι a w hlu hnd hun h
  refine ⟨fun hnil=>?_,fun i hi=>?_⟩
  ·obtain ⟨i0,hi0⟩:∃i0,i0∈un:=by cases un with | nil=>simp at hlu | cons x _=>exact ⟨x,List.mem_cons_self⟩
   have least:∀m i,i≤m→i∈un→ ∃j,j∈Region.ready .any ops listed:=by
    intro m
    induction m with
    |zero=>
     intro i him hiu
     obtain ⟨hin,hb⟩:=(hun i).1 hiu
     refine ⟨i,mem_ready.2 ⟨getD_in (by rw [h.head.size];exact hin) hb,ops[i]'hin,Array.getElem?_eq_getElem hin,fun e he hbind=>?_⟩⟩
     have:=hS.back i _ e (Array.getElem?_eq_getElem hin) he hbind
     omega
    |succ m ihm=>
     intro i him hiu
     obtain ⟨hin,hb⟩:=(hun i).1 hiu
     by_cases hall:∀e∈(ops[i]'hin).after,Region.binds .any e=true→listed.getD e.on false=true
     ·exact ⟨i,mem_ready.2 ⟨getD_in (by rw [h.head.size];exact hin) hb,_,Array.getElem?_eq_getElem hin,hall⟩⟩
     ·have:∃e∈(ops[i]'hin).after,Region.binds .any e=true∧listed.getD e.on false=false:=by
       apply Classical.byContradiction
       intro hc
       apply hall
       intro e he hbind
       cases hlb:listed.getD e.on false with
       |true=>rfl
       |false=>exact absurd ⟨e,he,hbind,hlb⟩ hc
      obtain ⟨e,he,hbind,hlb⟩:=this
      have hlt:=hS.back i _ e (Array.getElem?_eq_getElem hin) he hbind
      exact ihm e.on O_ ((hun e.on).2 ⟨by omega,hlb⟩)
   obtain ⟨j,hj⟩:=least i0 i0 (Nat.le_refl _) hi0
   rw [hnil] at hj;cases hj
  ·obtain ⟨hun0,o,ho,_⟩:=mem_ready.1 hi
   have hin:i<ops.size:=(Array.getElem?_eq_some_iff.1 ho).1
   refine h.run hl hS hf hi fun ι' a' w' h'=>?_
   have himem:i∈un:=(hun i).2 ⟨hin,getD_both hun0⟩
   refine ih (un.erase i) _ ι' a' w' (by rw [List.length_erase_of_mem himem,hlu];rfl) (hnd.erase i) (fun j=>?_) h'
   rw [hnd.mem_erase_iff,hun j]
   by_cases hji:j=i
   ·subst hji
    have his:j<listed.size:=by rw [h.head.size];exact hin
    simp [his]
   ·rw [getD_set_ne false (fun e=>hji e.symm)]
    simp [hji]
theorem bu {Q : Exit → Act → World → Prop} {id k : Nat} (hm : P.follows .mixedOrders = true) (hl : Hh P ops cs A V (A 0).n) (hall : Region.okChain ops cs (A 0).n = true) {ι : Emb} {w : World} {a : Act} (hf : DT ι (A 0) a) (hR : R ι (A 0).m w) (hk : k ≤ (A 0).m.length)
    (hQ : ∀ ι' a' w', DT ι' (A ops.size) a' → a'.defers = a.defers → Step k ι (A 0).m w ι' (A ops.size).m w' → Q .normal a' w') : (Code.region id ops true).wp P Q a w := by
  refine wp_region_any hm ?_
  have hRd : R ι (A 0).m w.drew := ⟨hR.dom, hR.rows, hR.inj, hR.stay⟩
  have hinv : UW ops cs A k ι w.drew a (Array.replicate ops.size false) ι a w.drew :=
    ⟨⟨0, Nat.zero_le _, fun i _ _ => by rw [getD_replicate_false]; simp, Step.refl hRd hk⟩, .refl _, fun j _ hl => (by rw [getD_replicate_false] at hl; cases hl), fun _ _ => rfl, rfl, rfl,
      ⟨by simp, fun j oj _ hl => (by rw [getD_replicate_false] at hl; cases hl), fun t ht ht' => by omega⟩⟩
  exact UW.any (w0 := w.drew) (Q' := Q) hl (Region.okChain_spec (by rw [hf.size]; exact hall)) hf
    (fun ι' a' w' h1 h2 h3 => hQ ι' a' w' h1 h2 ⟨h3.r, ⟨h3.trans.os, h3.trans.tape, h3.trans.output, h3.trans.size, h3.trans.keep, h3.trans.fresh⟩, h3.tx, h3.txn, h3.ext, h3.len, h3.ro, h3.old, h3.news⟩) ops.size (List.range ops.size) _ _ _ _ (by simp) List.nodup_range (fun j => by rw [getD_replicate_false]; simp) hinv
end
def DD(S:List Nat)(D:Nat)(m0 m:Ak):Prop:=m.length≤m0.length+D∧ ∀b,b<m0.length→S.contains b=false→m[b]?=m0[b]?
def HY(S:List Nat)(D:Nat)(m0:Ak):Ak:=kill S 0 m0++Gp D
theorem DD.R{S:List Nat}{D:Nat}{m0 m:Ak}(h:DD S D m0 m){ι:Emb}{w:World}(hR:R ι m w):R ι (HY S D m0) w:=by
 have get:∀ {b:Nat} {own:Bool} {x:Arr},(HY S D m0)[b]?=some (.row own x)→m[b]?=some (.row own x):=fun {b own x} hb=>by
  unfold HY at hb
  rcases Nat.lt_or_ge b (kill S 0 m0).length with h1 | h1
  ·rw [List.getElem?_append_left h1] at hb
   obtain ⟨h2,h3⟩:=VS S m0 0 b own x hb
   rw [Nat.zero_add] at h2
   rw [h.2 b (by rwa [Kz] at h1) h2];exact h3
  ·rw [List.getElem?_append_right h1] at hb
   unfold Gp at hb
   rw [List.getElem?_replicate] at hb
   split at hb<;>cases hb
 exact ⟨fun b hb=>hR.dom b (by
   have h1:=h.1
   simp only [HY,Gp,List.length_append,Kz,List.length_replicate] at hb
   omega),fun b l own x hb hm=>hR.rows b l own x hb (get hm),fun b b' l l' own own' x x' hne hb hb' hm hm' ho=>hR.inj b b' l l' own own' x x' hne hb hb' (get hm) (get hm') ho,fun c Φ hc=>⟨(hR.stay c Φ (hc.to _)).1,fun b l x hb hm=>(hR.stay c Φ (hc.to _)).2 b l x hb (get hm)⟩⟩
theorem Wc{P:Program}{S:List Nat}{D:Nat}{m0 m:Ak}(h:DD S D m0 m){o:Oper}{e:Operand→AV}{v:AV}(hv:AL P e (HY S D m0) o.op=some v):OL P o e m v:=fun ι w ρ hR hρ=>by
 obtain ⟨u,hu,hrel⟩:=OG hv (h.R hR) hρ
 exact .inl ⟨u,w,ι,.inl hu,hrel,Step.refl hR (Nat.le_refl _)⟩
theorem jT{P:Program}{S:List Nat}{D:Nat}{m0 m:Ak}(h:DD S D m0 m){o:Oper}{e:Operand→AV}{v:AV}(hv:Ev P (.op o.op e (BZ (HY S D m0))) (.val v (BZ (HY S D m0))))(hn:∀ρ,v.ren ρ=v):OL P o e m v:=fun ι w ρ hR hρ=>by
 have hRk:R ι (BZ (HY S D m0)) w:=ABC (h.R hR)
 have unown:∀c,C5 ι (BZ (HY S D m0)) c→False:=by
  rintro c ⟨b,l,x,_,h2,_⟩
  obtain ⟨h3,_⟩:=FW h2
  cases h3
 have lift:∀ {u:Value} {w':World} {ι1:Emb},v.rel ι1 u→Step (BZ (HY S D m0)).length ι (BZ (HY S D m0)) w ι1 (BZ (HY S D m0)) w'→ ∃ι2,v.rel ι2 u∧Step m.length ι m w ι2 m w':=by
  intro u w' ι1 hu hst
  obtain ⟨ι2,hsame,hst2⟩:=Wm (N:=[]) unown rfl hR (by rw [List.append_nil];exact hst)
  refine ⟨ι2,?_,?_⟩
  ·have:=AV.ren_rel hsame hu
   rwa [hn] at this
  ·rw [List.map_nil,List.append_nil] at hst2
   exact hst2
 rcases sound hv o ι w ρ rfl hRk hρ with ⟨u,w',ι1,hr,hu,hst⟩ | ⟨f,args,hr,hc⟩
 ·obtain ⟨ι2,h1,h2⟩:=lift hu hst
  exact .inl ⟨u,w',ι2,hr,h1,h2⟩
 ·refine .inr ⟨f,args,hr,hc.mono fun e' w' ⟨u,ι1,he,hu,hst⟩=>?_⟩
  obtain ⟨ι2,h1,h2⟩:=lift hu hst
  exact ⟨u,ι2,he,h1,h2⟩
def DX(cs:List (Nat×List Nat))(c:Nat):List Nat:=(cs.filter fun p=>decide (p.1<c)).flatMap (·.2)
def OU(ops:Array Oper)(cs:List (Nat×List Nat))(i:Nat):List Nat:=(cs.filter fun p=> !Te ops p.1 i).flatMap (·.2)
theorem DD.sub{S S':List Nat}{D:Nat}{m0 m:Ak}(h:DD S D m0 m)(hs:∀x∈S,x∈S'):DD S' D m0 m:=
 ⟨h.1,fun b hb hn=>h.2 b hb (by
  cases hc:S.contains b with
  |false=>rfl
  |true=>
   have:=hs b (by simpa using hc)
   rw [show S'.contains b=true by simpa using this] at hn
   cases hn)⟩
def YW (P : Program) (ops : Array Oper) (S : List Nat) (D : Nat) (M0 : Ak) (cs : List (Nat × List Nat)) (K : St → Prop) : Nat → List Oper → St → Prop
  | _, [], s => K s
  | i, o :: l, s => ((cs.map (·.1)).contains i = true ∧ ∃ v m', Ev P (.op o.op (AC s.t) s.m) (.val v m') ∧ DD (DX cs (i + 1)) D M0 m' ∧ YW P ops S D M0 cs K (i + 1) l ⟨s.n, Ce s.t o.dst v, m'⟩) ∨
      ((cs.map (·.1)).contains i = false ∧ ∃ v, (∀ m, (DD S D M0 m ∧ DD (OU ops cs i) D M0 m) → OL P o (AC s.t) m v) ∧ YW P ops S D M0 cs K (i + 1) l ⟨s.n, Ce s.t o.dst v, s.m⟩)
structure YO(P:Program)(ops:Array Oper)(S:List Nat)(D:Nat)(M0:Ak)(cs:List (Nat×List Nat))(i:Nat)(l:List Oper)(s:St)(K:St→Prop):Prop where
 h:YW P ops S D M0 cs K i l s
theorem GI(cs:List (Nat×List Nat)){c c':Nat}(h:c≤c'):∀x∈DX cs c,x∈DX cs c':=by
 intro x hx
 simp only [DX,List.mem_flatMap,List.mem_filter,decide_eq_true_eq] at hx ⊢
 obtain ⟨p,⟨h1,h2⟩,h3⟩:=hx
 exact ⟨p,⟨h1,by omega⟩,h3⟩
theorem YW.line{P:Program}{ops:Array Oper}{S:List Nat}{D:Nat}{M0:Ak}{cs:List (Nat×List Nat)}{K:St→Prop}{N0:Nat}:∀ {l:List Oper} {i:Nat} {s:St},YW P ops S D M0 cs K i l s→s.n=N0→DD (DX cs i) D M0 s.m→ ∃(A:Nat→St) (V:Nat→AV),A 0=s∧(∀c,c≤l.length→DD (DX cs (i+c)) D M0 (A c).m)∧
  (∀j o,l[j]?=some o→(cs.map (·.1)).contains (i+j)=false→(∀m,(DD S D M0 m∧DD (OU ops cs (i+j)) D M0 m)→OL P o (AC (A j).t) m (V j))∧A (j+1)=⟨N0,Ce (A j).t o.dst (V j),(A j).m⟩)∧
  (∀j o,l[j]?=some o→(cs.map (·.1)).contains (i+j)=true→ ∃m',Ev P (.op o.op (AC (A j).t) (A j).m) (.val (V j) m')∧A (j+1)=⟨N0,Ce (A j).t o.dst (V j),m'⟩)∧K (A l.length)
 |[],i,s,h,_,ha=>⟨fun _=>s,fun _=> .c .any,rfl,fun c hc=>ha.sub (GI cs O_),fun j o h=>by simp at h,fun j o h=>by simp at h,h⟩
 |o::l,i,s,h,hn,ha=>by
  rcases h with ⟨hs,v,m',hv,hag,hr⟩ | ⟨hs,v,hv,hr⟩
  ·obtain ⟨A,V,h0,hc,h1,h2,h3⟩:=YW.line (s:=⟨s.n,Ce s.t o.dst v,m'⟩) hr hn hag
   refine ⟨fun i=>match i with | 0=>s | i+1=>A i,fun i=>match i with | 0=>v | i+1=>V i,rfl,fun c hcl=>?_,fun j o' h hs'=>?_,fun j o' h hs'=>?_,h3⟩
   ·cases c with
    |zero=>exact ha
    |succ c=>have:=hc c (by simpa using hcl);rwa [show i+1+c=i+(c+1) by omega] at this
   ·cases j with
    |zero=>rw [Nat.add_zero,hs] at hs';cases hs'
    |succ j=>rw [show i+(j+1)=i+1+j by omega] at hs' ⊢;exact h1 j o' (by simpa using h) hs'
   ·cases j with
    |zero=>simp at h;subst h;exact ⟨m',hv,by simp only;rw [h0,hn]⟩
    |succ j=>rw [show i+(j+1)=i+1+j by omega] at hs';exact h2 j o' (by simpa using h) hs'
  ·obtain ⟨A,V,h0,hc,h1,h2,h3⟩:=YW.line (s:=⟨s.n,Ce s.t o.dst v,s.m⟩) hr hn (ha.sub (GI cs O_))
   refine ⟨fun i=>match i with | 0=>s | i+1=>A i,fun i=>match i with | 0=>v | i+1=>V i,rfl,fun c hcl=>?_,fun j o' h hs'=>?_,fun j o' h hs'=>?_,h3⟩
   ·cases c with
    |zero=>exact ha
    |succ c=>have:=hc c (by simpa using hcl);rwa [show i+1+c=i+(c+1) by omega] at this
   ·cases j with
    |zero=>simp at h;subst h;exact ⟨hv,by simp only;rw [h0,hn]⟩
    |succ j=>rw [show i+(j+1)=i+1+j by omega] at hs' ⊢;exact h1 j o' (by simpa using h) hs'
   ·cases j with
    |zero=>rw [Nat.add_zero,hs] at hs';cases hs'
    |succ j=>rw [show i+(j+1)=i+1+j by omega] at hs';exact h2 j o' (by simpa using h) hs'
theorem Gm{P:Program}{k id:Nat}{l:List Oper}{s:St}{Φ:Ex→St→Prop}(cs:List (Nat×List Nat))(S:List Nat)(D:Nat)(hm:P.follows .mixedOrders=true)(hok:Region.okChain l.toArray (cs.map (·.1)) s.n=true)(hS:(cs.flatMap (·.2)).all (S.contains ·)=true)(h:YO P l.toArray S D s.m cs 0 l s (Φ .normal)):WC P k (.region id l.toArray true) s Φ:=by
 obtain ⟨A,V,h0,hc,h1,h2,h3⟩:=YW.line (N0:=s.n) h.h rfl ⟨Nat.le_add_right _ _,fun _ _ _=>rfl⟩
 subst h0
 refine ⟨⟨.normal,A l.length,Ev.snd ?_,h3⟩⟩
 intro ι w a hk hR hf Q hQ
 have hl:Hh P l.toArray (cs.map (·.1)) A V (A 0).n:=by
  refine ⟨rfl,fun i o ho hs=>?_,fun i o ho hs=>?_⟩
  ·obtain ⟨g1,g2⟩:=h1 i o (by simpa using ho) (by rw [Nat.zero_add];exact hs)
   refine ⟨fun c hcl hfree=>g1 _ ?_,g2⟩
   have hag:=hc c (by simpa using hcl)
   rw [Nat.zero_add] at hag ⊢
   refine ⟨hag.sub fun x hx=>?_,hag.sub fun x hx=>?_⟩
   ·simp only [DX,List.mem_flatMap,List.mem_filter] at hx
    obtain ⟨p,⟨q1,_⟩,q2⟩:=hx
    have:=List.all_eq_true.1 hS x (List.mem_flatMap.2 ⟨p,q1,q2⟩)
    simpa using this
   ·simp only [DX,OU,List.mem_flatMap,List.mem_filter,decide_eq_true_eq] at hx ⊢
    obtain ⟨p,⟨q1,q3⟩,q2⟩:=hx
    refine ⟨p,⟨q1,?_⟩,q2⟩
    rw [hfree p.1 q3 (by simp only [List.contains_iff_mem];exact List.mem_map.2 ⟨p,q1,rfl⟩)]
    rfl
  ·obtain ⟨m',g1,g2⟩:=h2 i o (by simpa using ho) (by rw [Nat.zero_add];exact hs)
   exact ⟨m',sound g1,g2⟩
 exact bu (Q:=Q) hm hl hok hf hR hk fun ι' a' w' g1 g2 g3=>hQ ι' a' w' (by simpa using g1) g2 (by simpa using g3)
section
variable {P:Program} {ops:Array Oper} {S:List Nat} {D:Nat} {M0 M M':Ak} {cs:List (Nat×List Nat)} {i N d:Nat} {l:List Oper} {T:Nat→AV} {K:St→Prop} {op:Op} {v:AV} {ty:TypeId} {pos:String} {af:Array Edge}
theorem iI{s:St}(h:K s):YO P ops S D M0 cs i [] s K:=⟨h⟩
theorem Bf(h:AL P (AC T) (HY S D M0) op=some v)(hs:(cs.map (·.1)).contains i=false)(hk:YO P ops S D M0 cs (i+1) l ⟨N,upd T d v,M⟩ K):YO P ops S D M0 cs i (⟨some d,op,ty,pos,af,none⟩::l) ⟨N,T,M⟩ K:=
 ⟨.inr ⟨hs,v,fun _ ha=>Wc ha.1 h,hk.h⟩⟩
theorem ry(S':List Nat)(hS:(OU ops cs i).all (S'.contains ·)=true)(h:AL P (AC T) (HY S' D M0) op=some v)(hs:(cs.map (·.1)).contains i=false)(hk:YO P ops S D M0 cs (i+1) l ⟨N,upd T d v,M⟩ K):YO P ops S D M0 cs i (⟨some d,op,ty,pos,af,none⟩::l) ⟨N,T,M⟩ K:=
 ⟨.inr ⟨hs,v,fun _ ha=>Wc (ha.2.sub fun x hx=>by have:=List.all_eq_true.1 hS x hx;simpa using this) h,hk.h⟩⟩
theorem lT(h:Ev P (.op op (AC T) (BZ (HY S D M0))) (.val v (BZ (HY S D M0))))(hn:∀ρ,v.ren ρ=v)(hs:(cs.map (·.1)).contains i=false)(hk:YO P ops S D M0 cs (i+1) l ⟨N,upd T d v,M⟩ K):YO P ops S D M0 cs i (⟨some d,op,ty,pos,af,none⟩::l) ⟨N,T,M⟩ K:=
 ⟨.inr ⟨hs,v,fun _ ha=>jT ha.1 h hn,hk.h⟩⟩
def Q0(S:List Nat):Nat→Ak→List Nat
 |_,[]=>[]
 |i,_::m=>if S.contains i then Q0 S (i+1) m else i::Q0 S (i+1) m
theorem VK(S:List Nat):∀(m:Ak) (i b:Nat),b<m.length→S.contains (i+b)=false→i+b∈Q0 S i m
 |[],_,b,h,_=>by simp at h
 |_::m,i,0,_,h=>by
  rw [Nat.add_zero] at h
  unfold Q0
  rw [if_neg (by rw [h];simp)]
  exact List.mem_cons_self
 |_::m,i,b+1,h,h2=>by
  have:=VK S m (i+1) b (by simpa using h) (by rw [show i+1+b=i+(b+1) by omega];exact h2)
  rw [show i+1+b=i+(b+1) by omega] at this
  unfold Q0
  split
  ·exact this
  ·exact List.mem_cons_of_mem _ this
def SY(m m0:Ak):List Nat→Prop
 |[]=>True
 |b::l=>m[b]?=m0[b]?∧SY m m0 l
theorem Rn{m m0:Ak}:∀ {l:List Nat},SY m m0 l→ ∀b∈l,m[b]?=m0[b]?
 |_::_,h,b,hb=>by
  rcases List.mem_cons.1 hb with rfl | hb
  ·exact h.1
  ·exact Rn h.2 b hb
theorem lf(hl:Nat.ble M.length (M0.length+D)=true)(h:SY M M0 (Q0 S 0 M0)):DD S D M0 M:=
 ⟨Nat.le_of_ble_eq_true hl,fun b hb hs=>Rn h b (by have:=VK S M0 0 b hb (by rw [Nat.zero_add];exact hs);rwa [Nat.zero_add] at this)⟩
theorem W4(hl:Nat.ble M.length (M0.length+D)=true:=by rfl)(h:SY M M0 (Q0 S 0 M0):=by repeat (first | exact trivial | refine And.intro rfl ?_)):DD S D M0 M:=lf hl h
theorem Dc(h:Ev P (.op op (AC T) M) (.val v M'))(hs:(cs.map (·.1)).contains i=true)(hag:DD (DX cs (i+1)) D M0 M')(hk:YO P ops S D M0 cs (i+1) l ⟨N,upd T d v,M'⟩ K):YO P ops S D M0 cs i (⟨some d,op,ty,pos,af,none⟩::l) ⟨N,T,M⟩ K:=
 ⟨.inl ⟨hs,v,M',h,hag,hk.h⟩⟩
theorem WA(h:Ev P (.op op (AC T) M) (.val v M'))(hs:(cs.map (·.1)).contains i=true)(hag:DD (DX cs (i+1)) D M0 M')(hk:YO P ops S D M0 cs (i+1) l ⟨N,T,M'⟩ K):YO P ops S D M0 cs i (⟨none,op,ty,pos,af,none⟩::l) ⟨N,T,M⟩ K:=
 ⟨.inl ⟨hs,v,M',h,hag,hk.h⟩⟩
end
section
variable {P:Program} {op:Op} {e:Operand→AV} {m M M':Ak} {b n cap:Nat}
theorem cf{m:Ak}{r:Row}:(m++[r]).set m.length .dead=m++[.dead]:=by
 rw [List.set_append_right _ _ (Nat.le_refl _)];simp
theorem Rs{x:AB 8}(h:Ev P (.op op e m) (.val (.c (.sl b 0 n cap 1)) (m++[.row true (.a8 x)])))(hb:m.length=b)(hn:x.length=n)(hr:YZ m.length m=true):Ev P (.op op e m) (.val (.c (.bs x)) m):=by
 subst hb
 have h2:=sa h (M2:=m++[.dead]) (by simp) hn cf
 exact pz h2 hr rfl
theorem L5{x:List Int}(h:Ev P (.op op e m) (.val (.c (.sl b 0 n cap 1)) (m++[.row true (.ai x)])))(hb:m.length=b)(hn:x.length=n)(hr:YZ m.length m=true):Ev P (.op op e m) (.val (.c (.is x)) m):=by
 subst hb
 have h2:=sn h (M2:=m++[.dead]) (by simp) hn cf
 exact pz h2 hr rfl
theorem oh(h:Ev P (.op op e m) (.val (.c .nsl) M)):Ev P (.op op e m) (.val (.c (.bs [])) M):=
 Ev.opPost h fun ι _w _u hk hR hv=>⟨ι,⟨none,0,hv,Nat.le_refl _,.inl rfl⟩,Step.refl hR hk⟩
end
section
variable {P:Program} {k N:Nat} {ops:Array Oper} {d:Nat} {ty:TypeId} {pos:String} {af:Array Edge} {l0:List Oper} {T:Nat→AV} {M M':Ak} {K:St→Prop} {t t' el:TypeId} {x s a v:Operand}
theorem Zv{y u:AB 8}{by' n m b0 len cap:Nat}{e2:TypeId}(hs:AC T s= .c (.sl b0 0 len cap 1))(hms:M[b0]?=some (.row true (.a8 u)))(hx:AC T x= .c (.bs y))(hu:P.underlying t=some (.slice el))(hu2:P.underlying t'=some (.slice e2))(he:Bi P el=some (1,by'))
  (hlu:u.length=len) (hl:y.length=n) (hb:(len+n)*by'≤140737488355328∧len+n≤9223372036854775807∧n*by'≤140737488355328) (hn:M.length=m) (hM:M.set b0 .dead++[.row true (.a8 (u++y))]=M'):
  Ev P (.op (.call { callee:= .builtin .append,args:= #[s,x],argTypes:= #[t,t'] }) (AC T) M) (.val (.c (.sl m 0 (len+n) (len+n) 1)) M'):=
 Ev.mem (by
  show BM P M t t' (AC T s) (AC T x)=_
  subst hn;subst hM;subst hl
  rw [hs,hx]
  have hz2:Arr.size (.a8 u)=len:=hlu
  have hn9:y.length≤9223372036854775807:=by omega
  simp [BM,hu,Et,hu2,he,Eo,hms,hz2,Ft,Arr.one,Arr.app,hb.1,hb.2.1,hb.2.2,hn9])
theorem tj{y:List Int}{by' n m:Nat}{e2:TypeId}(hs:AC T s= .c .nsl)(hx:AC T x= .c (.is y))(hu:P.underlying t=some (.slice el))(hu2:P.underlying t'=some (.slice e2))(he:Bi P el=some (1,by'))(hl:y.length=n)(hb:n*by'≤140737488355328∧n≤9223372036854775807)(hn:M.length=m):
  CP P (AC T) M (.call { callee:= .builtin .append,args:= #[s,x],argTypes:= #[t,t'] })=some (.c (.sl m 0 n n 1),M++[.row true (.ai y)]):=by
 show BM P M t t' (AC T s) (AC T x)=_
 subst hn;subst hl
 rw [hs,hx]
 simp [BM,hu,Et,hu2,he,Eo,Arr.one,hb.1,hb.2]
theorem Qz{y u:List Int}{by' n m b0 len cap:Nat}{e2:TypeId}(hs:AC T s= .c (.sl b0 0 len cap 1))(hms:M[b0]?=some (.row true (.ai u)))(hx:AC T x= .c (.is y))(hu:P.underlying t=some (.slice el))(hu2:P.underlying t'=some (.slice e2))(he:Bi P el=some (1,by'))
  (hlu:u.length=len) (hl:y.length=n) (hb:(len+n)*by'≤140737488355328∧len+n≤9223372036854775807∧n*by'≤140737488355328) (hn:M.length=m) (hM:M.set b0 .dead++[.row true (.ai (u++y))]=M') (hd:decide (d<N)=true) (hk:WO P k ops l0 ⟨N,upd T d (.c (.sl m 0 (len+n) (len+n) 1)),M'⟩ K):
  WO P k ops (⟨some d,.call { callee:= .builtin .append,args:= #[s,x],argTypes:= #[t,t'] },ty,pos,af,none⟩::l0) ⟨N,T,M⟩ K:=
 QN (by
  show BM P M t t' (AC T s) (AC T x)=_
  subst hn;subst hM;subst hl
  rw [hs,hx]
  have hz2:Arr.size (.ai u)=len:=hlu
  have hn9:y.length≤9223372036854775807:=by omega
  simp [BM,hu,Et,hu2,he,Eo,hms,hz2,Ft,Arr.one,Arr.app,hb.1,hb.2.1,hb.2.2,hn9]) hd hk
theorem ZS{kk nn:Int}{aa:List Int}{u:List Nd}{by' m b0 len cap b c:Nat}{own:Bool}{e2:TypeId}(hs:AC T s= .c (.sl b0 0 len cap 3))(hms:M[b0]?=some (.row true (.an u)))(hx:AC T x= .c (.sl b 0 1 c 3))(hm:M[b]?=some (.row own (.ac [.val (.int .i64 kk),.val (.int .i64 nn),.is aa])))(hu:P.underlying t=some (.slice el))(hu2:P.underlying t'=some (.slice e2))(he:Bi P el=some (3,by'))
  (hlu:u.length=len) (hb:(len+1)*by'≤140737488355328∧len+1≤9223372036854775807∧by'≤140737488355328) (hn:M.length=m) (hM:M.set b0 .dead++[.row true (.an (u++[⟨kk,nn,aa⟩]))]=M'):
  Ev P (.op (.call { callee:= .builtin .append,args:= #[s,x],argTypes:= #[t,t'] }) (AC T) M) (.val (.c (.sl m 0 (len+1) (len+1) 3)) M'):=
 Ev.mem (by
  show BM P M t t' (AC T s) (AC T x)=_
  subst hn;subst hM;subst hlu
  rw [hs,hx]
  have hz:Arr.size (.ac [.val (.int .i64 kk),.val (.int .i64 nn),.is aa])=3:=rfl
  have hz2:Arr.size (.an u)=u.length*3:=by show 3*u.length=_;omega
  simp [BM,hu,Et,hu2,he,Eo,hm,hms,hz,hz2,Ft,Arr.one,Cell.one,Value.oneCell',Arr.app,hb.1,hb.2.1,hb.2.2])
theorem Rd{b o:Nat}{y:List Bool}{q:Bool}(ha:AC T a= .c (.ptr b o))(hv:AC T v= .c (.val (.bool q)))(hm:M[b]?=some (.row true (.bl y)))(hs:De P t=some 1)(ho:o<y.length)(hM:M.set b (.row true (.bl (y.set o q)))=M')
  (hk:WO P k ops l0 ⟨N,T,M'⟩ K):WO P k ops (⟨none,.store t a v,ty,pos,af,none⟩::l0) ⟨N,T,M⟩ K:=
 Pp ha hv hm rfl hs ho rfl hM hk
theorem jH{l c:Operand}{by' n m:Nat}{ka kb:IntKind}(hu:P.underlying t=some (.slice el))(hx:AC T l= .c (.val (.int ka (n:Int))))(hy:AC T c= .c (.val (.int kb (n:Int))))(he:Bi P el=some (1,by'))(hrep:∀n,JG P el n=some (.ac (List.replicate n (.val (.bool false)))))(h2:n*by'≤281474976710656)(h3:n≤9223372036854775807)(hn:M.length=m):
  Ev P (.op (.makeSlice t l c) (AC T) M) (.val (.c (.sl m 0 n n 1)) (M++[.row true (.bl (List.replicate n false))])):=by
 subst hn
 have h:CP P (AC T) M (.makeSlice t l c)=some (.c (.sl M.length 0 n n 1),M++[.row true (.ac (List.replicate n (.val (.bool false))))]):=by
  show F4 P M t (AC T l) (AC T c)=_
  rw [hx,hy]
  simp only [F4,hu,Fc,he]
  rw [if_pos ⟨by omega,by omega,by rw [←Int.natCast_mul];omega,by omega⟩]
  simp [hrep]
 refine Ev.opPost (Ev.mem h) fun ι w u hk hR hv=>⟨ι,hv,?_⟩
 have:=Xi (k:=M.length) (b:=M.length) (y:= .bl (List.replicate n false)) (by simp) hR (show (M++[.row true (.ac (List.replicate n (.val (.bool false))))])[M.length]?=some (.row true (.ac (List.replicate n (.val (.bool false))))) by simp) rfl rfl (by simp [Arr.size]) (fun ι i v hi hr=>by
  have hi':i<n:=by simpa [Arr.size] using hi
  simp only [Arr.get,Ti,List.getD_eq_getElem?_getD,List.getElem?_replicate,hi',if_true,Option.getD_some] at hr
  simp only [Arr.get,JN,List.getD_eq_getElem?_getD,List.getElem?_replicate,hi',if_true,Option.getD_some]
  exact hr) (fun h=>by cases h)
 rw [List.set_append_right _ _ (Nat.le_refl _)] at this
 simpa using this
end
theorem UJ{ρ:Nat→Option Nat}{ι ι':Emb}(h:Same ρ ι ι'):∀ {args:List AV} {vs:List Value},Cb ι args vs→Cb ι' (args.map (AV.ren ρ)) vs
 |[],[],_=>trivial
 |[],_::_,h=>h.elim
 |_::_,[],h=>h.elim
 |_a::_l,_v::_vs,hr=>⟨AV.ren_rel h hr.1,UJ h hr.2⟩
theorem Ev.relink{P:Program}{f:FuncId}{args args':List AV}{m m' mc' m2:Ak}{v v2:AV}(bs:List Nat)(hok:UG 0 m bs=true)(ha:args.map (AV.ren (Gx 0 bs))=args')(hm:EI 0 m bs=m')(h:Ev P (.call f args' m') (.val v mc'))(hv:(GH bs m v mc').1=v2)(hm2:(GH bs m v mc').2=m2):
  Ev P (.call f args m) (.val v2 m2):=by
 subst ha hm hv hm2
 refine Ev.semF fun ι w vs hR hargs=>?_
 have hst:=Jw hok hR
 have hlen:(EI 0 m bs).length=bs.length:=by simp [EI]
 refine (sound h (Ei 0 bs ι) w vs hst.r (UJ (MI 0 bs ι) hargs)).mono fun e' w' hq=>?_
 obtain ⟨u,ι',rfl,hv,hs⟩:=hq
 rw [hlen] at hs
 obtain ⟨h1,h2⟩:=VQ hok hR hs hv
 exact ⟨u,_,rfl,h1,h2⟩
inductive mU:List AV→List AV→Prop
 |nil:mU [] []
 |same {x:AV} {l l':List AV} (h:mU l l'):mU (x::l) (x::l')
 |nilZ {l l':List AV} (h:mU l l'):mU (.c .nsl::l) (.c (.is [])::l')
 |nilB {l l':List AV} (h:mU l l'):mU (.c .nsl::l) (.c (.bs [])::l')
 |lb {y:AB 8} {l l':List AV} (h:mU l l'):mU (.c (.lb y)::l) (.c (.bs y)::l')
theorem mU.rel{ι:Emb}{l l':List AV}(h:mU l l'):∀ {vs:List Value},Cb ι l vs→Cb ι l' vs:=by
 induction h with
 |nil=>intro vs h;exact h
 |same _ ih=>intro vs h;cases vs with
  |nil=>exact h
  |cons v vs=>exact ⟨h.1,ih h.2⟩
 |nilZ _ ih=>intro vs h;cases vs with
  |nil=>exact h
  |cons v vs=>exact ⟨⟨none,0,h.1,Nat.le_refl _,.inl rfl⟩,ih h.2⟩
 |nilB _ ih=>intro vs h;cases vs with
  |nil=>exact h
  |cons v vs=>exact ⟨⟨none,0,h.1,Nat.le_refl _,.inl rfl⟩,ih h.2⟩
 |lb _ ih=>intro vs h;cases vs with
  |nil=>exact h
  |cons v vs=>exact ⟨h.1.1,ih h.2⟩
theorem Ev.weakA{P:Program}{f:FuncId}{args args':List AV}{m m':Ak}{v:AV}(ha:mU args args')(h:Ev P (.call f args' m) (.val v m')):Ev P (.call f args m) (.val v m'):=
 Ev.semF fun ι w vs hR hargs=>sound h ι w vs hR (ha.rel hargs)
theorem li{ι:Emb}{m:Ak}{w:World}(hR:R ι m w){a:List Int}{v:Value}(hv:Cell.rel ι (.is a) v):
  ∃ι1:Emb,R ι1 (m++[.row false (.ai a)]) w∧ι1.tx=ι.tx∧ι.le ι1∧(∀b,b<m.length→ι1 b=ι b)∧Cell.rel ι1 (.sl m.length 0 a.length a.length 1) v:=by
 obtain ⟨p,cap,rfl,h1,h2⟩:=hv
 rcases h2 with h2 | ⟨c,o,rfl,⟨o',v',hb⟩,hr⟩
 ·refine ⟨ι,(Rx hR _ (Nat.le_refl _)).r,rfl,.refl _,fun _ _=>rfl,⟨p,cap,rfl,h1,h1,.inl h2⟩⟩
 ·obtain ⟨⟨cs,t,fr,e1,_⟩,_⟩:=hR.txt _ _ _ hb
  have hle:=hR.upd_le ⟨c,o,cap⟩
  refine ⟨ι.upd m.length ⟨c,o,cap⟩,⟨fun b hb=>?_,fun b l own x hl hm=>?_,fun b b' l l' own own' x x' hne hl hl' hm hm' ho=>?_,fun c1 Φ hc=>⟨(hR.stay c1 Φ (hc.to ι)).1,fun b l x hl hm=>?_⟩⟩,rfl,hle,fun b hb=>Emb.upd_ne O_,⟨_,cap,rfl,h1,h1,.inr ⟨_,Emb.upd_eq _ _ _,rfl,by simp⟩⟩⟩
  ·simp at hb
   rw [Emb.upd_ne O_];exact hR.dom b O_
  ·rcases Ch hm with ⟨hlt,hm⟩ | ⟨rfl,e⟩
   ·rw [Emb.upd_ne O_] at hl
    exact (hR.rows b l own x hl hm).mono hle
   ·cases e
    rw [Emb.upd_eq] at hl
    cases hl
    refine .of rfl ⟨cs,t,fr,e1,h1,fun j hj=>?_,fun h=>by cases h⟩
    obtain ⟨⟨cs',t',fr',f1,f2⟩,_⟩:=hR.txt _ _ _ (hr j hj)
    rw [e1] at f1;cases f1
    exact ⟨_,f2,rfl⟩
  ·have far:∀ {b:Nat} {l:Loc} {x:Arr},ι b=some l→m[b]?=some (.row true x)→l.c≠c:=fun h1 h2=>(hR.txt _ _ _ hb).2 _ _ _ h1 h2
   rcases Ch hm with ⟨hlt,hm⟩ | ⟨rfl,e⟩<;>rcases Ch hm' with ⟨hlt',hm'⟩ | ⟨rfl,e'⟩
   ·rw [Emb.upd_ne O_] at hl hl'
    exact hR.inj b b' l l' own own' x x' hne hl hl' hm hm' ho
   ·cases e'
    rw [Emb.upd_ne O_] at hl
    rw [Emb.upd_eq] at hl'
    cases hl'
    rcases ho with rfl | h
    ·exact far hl hm
    ·cases h
   ·cases e
    rw [Emb.upd_ne O_] at hl'
    rw [Emb.upd_eq] at hl
    cases hl
    rcases ho with h | rfl
    ·cases h
    ·exact fun e=>far hl' hm' e.symm
   ·exact absurd rfl hne
  ·rcases Ch hm with ⟨hlt,hm⟩ | ⟨rfl,e⟩
   ·rw [Emb.upd_ne O_] at hl
    exact (hR.stay c1 Φ (hc.to ι)).2 b l x hl hm
   ·cases e
theorem Ev.isRow{P:Program}{f:FuncId}{args args':List AV}{m M' M2:Ak}{v v2:AV}{a:List Int}(i:Nat)(ids:List Nat)(hi:args[i]?=some (.c (.is a)))(hi':args'[i]?=some (.c (.sl m.length 0 a.length a.length 1)))(hl:args'.length=args.length)(ho:∀j,j≠i→args'[j]?=args[j]?)
  (h:Ev P (.call f args' (m++[.row false (.ai a)])) (.val v M')) (hok:UG m.length M' ids=true) (hids:(ids.all fun x=>decide (m.length<x))=true) (hv:v.ren (Gx m.length ids)=v2) (hM:EI m.length M' ids=M2):Ev P (.call f args m) (.val v2 M2):=by
 subst hv hM
 refine Ev.semF fun ι w vs hR hargs=>?_
 have argI:∀ {l:List AV} {vs:List Value} {ι:Emb} {j:Nat} {x:AV},Cb ι l vs→l[j]?=some x→ ∃u,vs[j]?=some u∧x.rel ι u:=by
  intro l
  induction l with
  |nil=>intro vs ι j x _ h;simp at h
  |cons y l ih=>intro vs ι j x hr h;cases vs with
   |nil=>exact hr.elim
   |cons u vs=>cases j with
    |zero=>simp at h;subst h;exact ⟨u,rfl,hr.1⟩
    |succ j=>obtain ⟨u',h1,h2⟩:=ih hr.2 (by simpa using h);exact ⟨u',by simpa using h1,h2⟩
 have argOf:∀ {l:List AV} {vs:List Value} {ι:Emb},l.length=vs.length→(∀(j:Nat) (x:AV) (u:Value),l[j]?=some x→vs[j]?=some u→x.rel ι u)→Cb ι l vs:=by
  intro l
  induction l with
  |nil=>intro vs ι h _;cases vs with
   |nil=>trivial
   |cons=>simp at h
  |cons y l ih=>intro vs ι h hr;cases vs with
   |nil=>simp at h
   |cons u vs=>exact ⟨hr 0 y u rfl rfl,ih (by simpa using h) fun j x u hx hu=>hr (j+1) x u (by simpa using hx) (by simpa using hu)⟩
 have hvl:args.length=vs.toList.length:=by
  have:∀ {l:List AV} {vs:List Value} {ι:Emb},Cb ι l vs→l.length=vs.length:=by
   intro l
   induction l with
   |nil=>intro vs ι h;cases vs with
    |nil=>rfl
    |cons=>exact h.elim
   |cons y l ih=>intro vs ι h;cases vs with
    |nil=>exact h.elim
    |cons u vs=>simp [ih h.2]
  exact this hargs
 obtain ⟨u0,hu0,hr0⟩:=argI hargs hi
 obtain ⟨ι1,hR1,htx,hle,hlo,hcell⟩:=li hR (v:=u0) hr0
 have hargs1:Cb ι1 args' vs.toList:=argOf (by rw [hl];exact hvl) fun j x u hx hu=>by
  by_cases hji:j=i
  ·subst hji
   rw [hi'] at hx
   rw [hu0] at hu
   cases hx;cases hu
   exact hcell
  ·rw [ho j hji] at hx
   obtain ⟨u',h1,h2⟩:=argI hargs hx
   rw [h1] at hu
   cases hu
   exact AV.rel_mono hle h2
 refine (sound h ι1 w vs hR1 hargs1).mono fun e' w' hq=>?_
 obtain ⟨u,ι',rfl,hu,hs⟩:=hq
 have hl1:(m++[Row.row false (.ai a)]).length=m.length+1:=by simp
 rw [hl1] at hs
 have hs2:=Jw hok hs.r
 have hc:=(hs.low (Nat.le_succ _)).comp hs2
 have row1:∀ {b:Nat} {x:Arr},(m++[Row.row false (.ai a)])[b]?=some (.row true x)→b<m.length∧m[b]?=some (.row true x):=fun {b x} hb=>by
  rcases Ch hb with h1 | ⟨_,e⟩
  ·exact h1
  ·cases e
 have own1:∀ {c},C5 ι1 (m++[Row.row false (.ai a)]) c→C5 ι m c:=fun {c} ⟨b,l,x,h1,h2,h3⟩=>by
  obtain ⟨h4,h5⟩:=row1 h2
  exact ⟨b,l,x,by rw [←hlo b h4];exact h1,h5,h3⟩
 refine ⟨u,Ei m.length ids ι',rfl,AV.ren_rel (MI _ _ _) hu,⟨hc.r,⟨hc.trans.os,hc.trans.tape,hc.trans.output,hc.trans.size,fun c hcl hn=>hc.trans.keep c hcl fun h=>hn (own1 h),fun c h=>(hc.trans.fresh c h).imp id own1⟩,fun c o v h=>hc.tx c o v (by rw [htx];exact h),fun c o v h=>?_,fun b hb=>(hc.ext b hb).trans (hlo b hb),hc.len,fun b x hb hm=>hc.ro b x hb (by rw [List.getElem?_append_left hb];exact hm),fun b own x hb hm=>?_,fun b l own x hb h1 h2=>?_⟩⟩
 ·rcases hc.txn c o v h with h | h | h
  ·exact .inl (by rw [←htx];exact h)
  ·exact .inr (.inl h)
  ·exact .inr (.inr (own1 h))
 ·obtain ⟨x0,h0⟩:=hc.old b own x hb hm
  rw [List.getElem?_append_left hb] at h0
  exact ⟨x0,h0⟩
 ·have hk:m.length≤M'.length:=Nat.le_trans (Nat.le_succ _) hs.len
  obtain ⟨b',y,hy,rfl,hbb⟩:=FH hk h2
  rcases hbb with ⟨h3,_⟩ | ⟨_,hidb⟩
  ·omega
  ·have hgt:m.length<b':=by have:=List.all_eq_true.1 hids b' (List.mem_of_getElem? hidb);simpa using this
   have hemb:Ei m.length ids ι' b=ι' b':=by unfold Ei;dsimp only;rw [if_neg O_,hidb]
   rw [hemb] at h1
   rcases hs.news b' l own y O_ h1 hy with h4 | h4 | ⟨b0,l0,o0,x0,h5,_,h6,_⟩
   ·exact .inl h4
   ·exact .inr (.inl (own1 h4))
   ·exact (H9 (by simp;omega) h6).elim
def dc(l:List UInt8):Nat:=l.foldl (fun v d=>v*10+(d.toNat-48)) 0
theorem fK(l:List UInt8)(d:UInt8):dc (l++[d])=dc l*10+(d.toNat-48):=by simp [dc]
theorem P5{i:Nat}(h:i<10):(UInt8.ofNat (48+i)).toNat=48+i:=by
 simp only [UInt8.toNat_ofNat']
 omega
theorem XM(u:Nat):dc (Lib.decDigits u)=u:=by
 induction u using Nat.strongRecOn with
 |ind u ih=>
  by_cases h:u<10
  ·rw [Lib.decDigits_one h]
   simp only [dc,List.foldl_cons,List.foldl_nil,P5 h]
   omega
  ·rw [Lib.decDigits,dif_neg h,fK,ih (u/10) O_,P5 O_]
   omega
theorem P1(u:Nat):∀d∈Lib.decDigits u,48≤d.toNat∧d.toNat≤57:=by
 induction u using Nat.strongRecOn with
 |ind u ih=>
  intro d hd
  by_cases h:u<10
  ·rw [Lib.decDigits_one h,List.mem_singleton] at hd
   subst hd
   rw [P5 h];omega
  ·rw [Lib.decDigits,dif_neg h,List.mem_append,List.mem_singleton] at hd
   rcases hd with hd | rfl
   ·exact ih (u/10) O_ d hd
   ·rw [P5 O_];omega
theorem gr{u v:Nat}(h:Lib.decDigits u=Lib.decDigits v):u=v:=by rw [←XM u,h,XM]
theorem Ww(x:Int):(32:UInt8) ∉ Lib.itoa x:=by
 intro h
 unfold Lib.itoa at h
 split at h
 ·rcases List.mem_cons.1 h with h | h
  ·exact absurd h D_
  ·have:=P1 _ _ h
   revert this;decide
 ·have:=P1 _ _ h
  revert this;decide
theorem pL{x y:Int}(h:Lib.itoa x=Lib.itoa y):x=y:=by
 unfold Lib.itoa at h
 split at h<;>split at h
 ·have:=gr (List.cons.inj h).2
  omega
 ·rename_i h1 h2
  have:=P1 y.toNat 45 (by rw [←h];exact List.mem_cons_self)
  exact absurd this D_
 ·rename_i h1 h2
  have:=P1 x.toNat 45 (by rw [h];exact List.mem_cons_self)
  exact absurd this D_
 ·have:=gr h
  omega
theorem bF{l m r s:List UInt8}(hl:(32:UInt8) ∉ l)(hm:(32:UInt8) ∉ m)(h:l++32::r=m++32::s):l=m∧r=s:=by
 induction l generalizing m with
 |nil=>
  cases m with
  |nil=>exact ⟨rfl,(List.cons.inj h).2⟩
  |cons y m=>exact absurd (List.cons.inj h).1 (fun e=>hm (by rw [e];exact List.mem_cons_self))
 |cons x l ih=>
  cases m with
  |nil=>exact absurd (List.cons.inj h).1 (fun e=>hl (by rw [←e];exact List.mem_cons_self))
  |cons y m=>
   obtain ⟨h1,h2⟩:=List.cons.inj h
   obtain ⟨h3,h4⟩:=ih (m:=m) (fun h=>hl (List.mem_cons_of_mem _ h)) (fun h=>hm (List.mem_cons_of_mem _ h)) h2
   exact ⟨by rw [h1,h3],h4⟩
theorem UU:∀ {l m:List Int},DZ l=DZ m→l=m
 |[],[],_=>rfl
 |[],y::m,h=>by simp [DZ] at h
 |x::l,[],h=>by simp [DZ] at h
 |x::l,y::m,h=>by
  obtain ⟨h1,h2⟩:=bF (Ww x) (Ww y) h
  rw [pL h1,UU h2]
def bA(x:Nd):Value:= .string ⟨(DZ (x.k::x.n::x.a)).toArray⟩
theorem bm{x y:Nd}(h:bA x=bA y):x=y:=by
 unfold bA at h
 have h1:(DZ (x.k::x.n::x.a)).toArray=(DZ (y.k::y.n::y.a)).toArray:=congrArg ByteArray.data (Value.string.inj h)
 have h2:=UU (List.toArray_inj h1)
 cases x;cases y
 simp_all
def Bk(L:List Nd):List (Value×C6):=(List.range L.length).map fun i=>(bA (Aa L i),.val (.int .i64 (i:Int)))
theorem KA{L:List Nd}{x:Nd}{i:Nat}(h:i<L.length):Aa (L++[x]) i=Aa L i:=by
 unfold Aa
 rw [Gd,if_pos h]
theorem Jl(L:List Nd)(x:Nd):Aa (L++[x]) L.length=x:=by
 unfold Aa
 rw [Gd,if_neg O_]
 simp
theorem YJ(L:List Nd)(x:Nd):Bk (L++[x])=Bk L++[(bA x,.val (.int .i64 (L.length:Int)))]:=by
 unfold Bk
 rw [List.length_append,List.length_singleton,List.range_succ,List.map_append,List.map_singleton,Jl]
 congr 1
 apply List.map_congr_left
 intro i hi
 rw [KA (List.mem_range.1 hi)]
def DY(k:Int):Bool:=(decide (k=1) || decide (k=2)) || decide (k=4)
def CK(k:Int):Nat:=if k=4∨k=5∨k=6∨k=8 then 1 else if k=7 then 2 else 0
def Eb(k:Int):Nat:=if k=1∨k=2 then 0 else if k=4∨k=5 then 1 else 400
def hasB(m:Nat)(a:List Int):Bool:=a.all fun i=>decide (0≤i)&&decide (i<(m:Int))
def Bl(m:Nat)(k n:Int)(a:List Int):Nat:=
 if k<1∨9<k then 6 else if n<0∨(0<n∧DY k=false) then 1 else if a.length<CK k∨Eb k<a.length then 2 else if hasB m a=false then 8 else 0
def V2(x y:Nd):Bool:=((x.k==y.k)&&(x.n==y.n))&&decide (x.a=y.a)
theorem SC{x y:Nd}:V2 x y=true↔x=y:=by
 cases x;cases y
 simp [V2,and_assoc]
def F2(L:List Nd)(x:Nd):Option Nat:=L.findIdx? (V2 · x)
def mk(L:List Nd)(k n:Int)(a:List Int):List Nd×Nat×Nat:=
 if Bl L.length k n a≠0 then (L,0,Bl L.length k n a)
 else match F2 L ⟨k,n,a⟩ with
  |some i=>(L,i,0)
  |none=>if 1048576≤L.length then (L,0,7) else (L++[⟨k,n,a⟩],L.length,0)
structure C2(L:List Nd):Prop where
 dist:∀i j,i<L.length→j<L.length→Aa L i=Aa L j→i=j
 ok:∀i,i<L.length→Bl i (Aa L i).k (Aa L i).n (Aa L i).a=0
 small:∀i,i<L.length→(Aa L i).n≤9223372036854775807
theorem C2.nil:C2 []:=⟨fun i j h=>by simp at h,fun i h=>by simp at h,fun i h=>by simp at h⟩
theorem Mz{L:List Nd}{x:Nd}{i:Nat}(h:F2 L x=some i):i<L.length∧Aa L i=x:=by
 unfold F2 at h
 obtain ⟨hi,h1,_⟩:=List.findIdx?_eq_some_iff_getElem.1 h
 refine ⟨hi,?_⟩
 have:=SC.1 h1
 unfold Aa
 rw [List.getD_eq_getElem?_getD,List.getElem?_eq_getElem hi]
 exact this
theorem MZ{L:List Nd}{x:Nd}(h:F2 L x=none){i:Nat}(hi:i<L.length):Aa L i≠x:=by
 unfold F2 at h
 rw [List.findIdx?_eq_none_iff] at h
 intro e
 have:=h (Aa L i) (by
  unfold Aa
  rw [List.getD_eq_getElem?_getD,List.getElem?_eq_getElem hi]
  exact List.getElem_mem hi)
 rw [e,show V2 x x=true from SC.2 rfl] at this
 cases this
theorem C2.snoc{L:List Nd}(h:C2 L){k n:Int}{a:List Int}(he:Bl L.length k n a=0)(hn:n≤9223372036854775807)(hf:F2 L ⟨k,n,a⟩=none):C2 (L++[⟨k,n,a⟩]):=by
 have last:∀i,i<(L++[(⟨k,n,a⟩:Nd)]).length→i=L.length∨i<L.length:=fun i hi=>by simp at hi;omega
 refine ⟨fun i j hi hj e=>?_,fun i hi=>?_,fun i hi=>?_⟩
 ·rcases last i hi with rfl | hi<;>rcases last j hj with rfl | hj
  ·rfl
  ·rw [Jl,KA hj] at e;exact absurd e.symm (MZ hf hj)
  ·rw [Jl,KA hi] at e;exact absurd e (MZ hf hi)
  ·rw [KA hi,KA hj] at e;exact h.dist i j hi hj e
 ·rcases last i hi with rfl | hi
  ·rw [Jl];exact he
  ·rw [KA hi];exact h.ok i hi
 ·rcases last i hi with rfl | hi
  ·rw [Jl];exact hn
  ·rw [KA hi];exact h.small i hi
theorem C2.keyed{L:List Nd}(h:C2 L):Keyed .string (Bk L):=by
 refine ⟨fun p hp=>?_,?_⟩
 ·obtain ⟨i,_,rfl⟩:=List.mem_map.1 hp
  exact trivial
 ·unfold Bk
  rw [List.pairwise_map]
  refine List.Pairwise.imp_of_mem ?_ List.pairwise_lt_range
  intro i j hi hj hlt e
  have:=h.dist i j (List.mem_range.1 hi) (List.mem_range.1 hj) (bm e)
  omega
theorem kQ{L:List Nd}{i:Nat}(hi:i<L.length):(bA (Aa L i),C6.val (.int .i64 (i:Int)))∈Bk L:=List.mem_map.2 ⟨i,List.mem_range.2 hi,rfl⟩
theorem PZ{L:List Nd}{x:Nd}(hf:F2 L x=none):∀p∈Bk L,p.1≠bA x:=by
 intro p hp e
 obtain ⟨i,hi,rfl⟩:=List.mem_map.1 hp
 exact MZ hf (List.mem_range.1 hi) (bm e)
structure xd(i:Nat)(x:Nd):Prop where
 kind:1≤x.k∧x.k≤9
 num:0≤x.n∧(0<x.n→DY x.k=true)
 len:CK x.k≤x.a.length∧x.a.length≤Eb x.k
 args:∀y∈x.a,0≤y∧y<(i:Int)
theorem In{m:Nat}{k n:Int}{a:List Int}(h:Bl m k n a=0):xd m ⟨k,n,a⟩:=by
 unfold Bl at h
 split at h
 ·cases h
 ·split at h
  ·cases h
  ·split at h
   ·cases h
   ·split at h
    ·cases h
    ·rename_i h1 h2 h3 h4
     simp only [not_or,not_and,Int.not_lt,Bool.not_eq_false] at h1 h2 h4
     rw [not_or] at h3
     refine ⟨⟨h1.1,h1.2⟩,⟨h2.1,fun hp=>h2.2 hp⟩,⟨Nat.le_of_not_lt h3.1,Nat.le_of_not_lt h3.2⟩,fun y hy=>?_⟩
     unfold hasB at h4
     simp only [List.all_eq_true,Bool.and_eq_true,decide_eq_true_eq] at h4
     exact h4 y hy
theorem C2.nd{L:List Nd}(h:C2 L){i:Nat}(hi:i<L.length):xd i (Aa L i):=In (h.ok i hi)
theorem ES(k:Int):Eb k≤400:=by
 unfold Eb
 split
 ·omega
 ·split<;>omega
theorem mh(w:World)(o:Obj)(h:o= .cells #[] 3):(w.alloc o).ownsRow w.heap.size 3 1 (.slice (some ⟨w.heap.size,0,none⟩) 0 0) 0 []:=by
 subst h
 exact ⟨rfl,.inr ⟨w.heap.size,0,#[],rfl,Nat.le_refl _,heap_alloc_new w _,Nat.le_refl _,by unfold maxLen;omega,rfl,rfl⟩⟩
theorem mA(l:List Int)(v:Value)(w:World)(hv:(v= .slice none 0 0∧l=[])∨ ∃ad cap,v= .slice (some ad) l.length cap∧ ∀j u,(l.map (Value.int .i64))[j]?=some u→w.cell? (ad.add j)=some u)(hlen:l.length≤1000):
  Calls prog 43 #[v] w fun e w'=> ∃v',e= .returned v'∧w'.ownsRow w.heap.size 3 1 v' l.length (l.map (Value.int .i64))∧Below w.heap.size w w':=by
 have Hlen:=hid hlen
 clear hlen
 have q41:∀(w:World) (a:Option Addr) (n c n' c':Nat),(binOp .eql 41 (.slice a n c) (.slice none n' c')).run prog w= .ok (.bool a.isNone) w:=fun w a n c n' c'=>Lib.run_eql_slice_nil w _ _ a n c n' c' underlying41
 rcases hv with ⟨rfl,rfl⟩ | ⟨ad,cap,rfl,hc⟩
 ·go_enter func43,ntmps43
  go_wp2
  go_ret
  exact ⟨_,rfl,World.ownsRow_nil _ _ _ _,Below.refl _ _⟩
 ·have Hv:=hid hc
  clear hc
  go_enter func43,ntmps43
  go_wp2_with (at_builtin;refine Oa _ rfl (.tmp 5) (.tmp 6) 41 rfl w.heap.size underlying41 jF (.slice (some ⟨w.heap.size,0,none⟩) 0 0) 0 [] l rfl (mh w _ rfl) _ rfl ?_ (by have:=Hlen.out;omega) (by simp) ?_)
  ·exact .inr ⟨ad,cap,rfl,fun j u hj=>by have h3:=Hv.out j u hj;exact (World.cell?_of_block (w:=w) (by rw [Gg,if_neg (by have:=World.block_lt_of_cell? w _ h3;omega)])).trans h3⟩
  intro v1 w1 hown1 hgrow1
  have hB1:Below w.heap.size w w1:=((Below.refl _ _).alloc (Nat.le_refl _) _).grown hgrow1 (by simp) (fun k hk=>by simp [Value.ownBlock] at hk;omega)
  have HO:=hid hown1
  have HB:=hid hB1
  clear hown1 hgrow1 hB1
  go_wp2
  go_ret
  exact ⟨_,rfl,HO.out,HB.out⟩
theorem WT{ι:Emb}{M:Ak}{w w':World}(hR:R ι M w)(hb:Below w.heap.size w w'):Step M.length ι M w ι M w':=
 Step.make hR hR.dom (fun b l own x h1 h2=>(hR.rows b l own x h1 h2).heap (hb.block _ (hR.lt h1 h2)) (.refl _)) hR.inj ⟨hb.os,hb.tape,hb.output,hb.size,fun c hc _=>hb.block c hc,fun _ h=> .inr h⟩ rfl (fun _ _=>rfl) (Nat.le_refl _) (fun _ _ _ h=>h) (fun _ _ x _ h=>⟨x,h⟩) (fun _b _l _own _x hb _h1 h2=>(H9 hb h2).elim)
theorem qw{ι:Emb}{M:Ak}{w w':World}(hR:R ι M w)(hb:Below w.heap.size w w'){v:Value}{l:List Int}(ho:w'.ownsRow w.heap.size 3 1 v l.length (l.map (Value.int .i64))):∃ι',Cell.rel ι' (.is l) v∧Step M.length ι M w ι' M w':=by
 have hst:=WT hR hb
 rcases ho.2 with ⟨rfl,h0⟩ | ⟨g,cap,cur,rfl,hg,hh,hc,hm,hs,ht⟩
 ·exact ⟨ι,⟨none,0,by rw [h0],by omega,.inl rfl⟩,hst⟩
 ·have hle:ι.le ⟨ι.f,fun c o u=>ι.tx c o u∨(c=g∧cur[o]?=some u)⟩:=⟨fun _ _ h=>h,fun _ _ _ h=> .inl h⟩
  refine ⟨⟨ι.f,fun c o u=>ι.tx c o u∨(c=g∧cur[o]?=some u)⟩,?_,⟨⟨hst.r.dom,fun b l own x h1 h2=>(hst.r.rows b l own x h1 h2).mono hle,hst.r.inj,fun c Φ hc=>?_⟩,⟨hst.trans.os,hst.trans.tape,hst.trans.output,hst.trans.size,hst.trans.keep,hst.trans.fresh⟩,fun _ _ _ h=> .inl h,fun c o u hc=>?_,fun _ _=>rfl,Nat.le_refl _,fun _ _ _ h=>h,fun _ _ x _ h=>⟨x,h⟩,fun b l own x hb h1 h2=>(H9 hb h2).elim⟩⟩
  ·refine ⟨some ⟨g,0,none⟩,cap,rfl,hc,?_⟩
   have cell:∀i,i<l.length→cur[i]?=some (.int .i64 (l.getD i 0)):=fun i hi=>by
    have h1:(cur.toList.take (l.length*1))[i]?=(l.map (Value.int .i64))[i]?:=by rw [ht]
    rw [List.getElem?_take,if_pos O_,List.getElem?_map,List.getElem?_eq_getElem hi,Option.map_some,Array.getElem?_toList] at h1
    rw [h1,List.getD_eq_getElem?_getD,List.getElem?_eq_getElem hi]
    rfl
   by_cases h0:cap=0
   ·exact .inl h0
   ·have hcur:0<cur.size:=by omega
    refine .inr ⟨g,0,rfl,⟨0,cur[0],.inr ⟨rfl,by simp [hcur]⟩⟩,fun i hi=> .inr ⟨rfl,?_⟩⟩
    rw [Nat.zero_add];exact cell i hi
  ·cases hc with
   |base kb=>exact hst.r.stay c Φ (.base kb)
   |tx hc=>
    rcases hc with hc | ⟨rfl,h2⟩
    ·exact hst.r.stay c _ (.tx hc)
    ·exact ⟨⟨_,hh,cur,3,(0,0),rfl,h2⟩,fun b l x h1 h3 e=>by have:=hR.lt h1 h3;omega⟩
  ·rcases hc with hc | ⟨rfl,_⟩
   ·exact .inl hc
   ·exact .inr (.inl hg)
theorem dS{ι:Emb}{M:Ak}{w:World}(hR:R ι M w){b n cap:Nat}{own:Bool}{l:List Int}(hm:M[b]?=some (.row own (.ai l)))(hl:l.length=n){v:Value}(hv:Cell.rel ι (.sl b 0 n cap 1) v):
  (v= .slice none 0 0∧l=[])∨ ∃ad cap,v= .slice (some ad) l.length cap∧ ∀j u,(l.map (Value.int .i64))[j]?=some u→w.cell? (ad.add j)=some u:=by
 obtain ⟨p,cap',rfl,_,h2,h3⟩:=hv
 subst hl
 rcases h3 with rfl | ⟨lc,hlc,rfl,_⟩
 ·have:l.length=0:=by omega
  obtain rfl:l=[]:=List.eq_nil_of_length_eq_zero this
  cases p with
  |none=>exact .inl ⟨rfl,rfl⟩
  |some ad=>exact .inr ⟨ad,0,rfl,fun j u h=>by simp at h⟩
 ·refine .inr ⟨_,cap',rfl,fun j u hj=>?_⟩
  obtain ⟨cs,t,fr,k1,k2,k3,k4⟩:=hR.cells hlc hm rfl
  have hj':j<l.length:=by have:=(List.getElem?_eq_some_iff.1 hj).1;simpa using this
  obtain ⟨u',e1,e2⟩:=k3 j hj'
  obtain rfl:u'= .int .i64 (AX l j):=e2
  rw [Fk,cell_of k1,Nat.add_zero,e1]
  rw [List.getElem?_map,List.getElem?_eq_getElem hj'] at hj
  cases hj
  simp [AX,hj']
theorem pt{ι:Emb}{M:Ak}{w:World}(hR:R ι M w):Lib.TabIs prog w "internal/strconv.uint64pow10" .u64 Lib.pow10Tab:=
 xo K_ (hR.stay 0 eT (.base rfl)).1
theorem fP(k n:Int)(a:List Int)(m cap:Nat)(hm:a.length=m)(hlen:m≤1000)(hr:∀x∈k::n::a,-9223372036854775808≤x∧x≤9223372036854775807):
  Ev prog (.call 42 [.c (.val (.int .i64 k)),.c (.val (.int .i64 n)),.c (.sl 0 0 m cap 1)] [.row false (.ai a)]) (.val (.c (.val (bA ⟨k,n,a⟩))) [.row false (.ai a)]):=
 Ev.semF fun ι w vs hR hargs=>by
  match hvs:vs.toList,hargs with
  |[v1,v2,v3],hargs=>
   obtain ⟨h1,h2,h3,_⟩:=hargs
   obtain rfl:v1= .int .i64 k:=h1
   obtain rfl:v2= .int .i64 n:=h2
   have hv:vs= #[.int .i64 k,.int .i64 n,v3]:=by rw [←Array.toList_inj,hvs]
   subst hv
   refine (tU k n a v3 w (dS hR (b:=0) rfl hm h3) O_ hr (pt hR)).mono fun e w' ⟨he,hb⟩=>?_
   exact ⟨_,ι,he,rfl,WT hR hb⟩
theorem bH(a:List Int)(m cap:Nat)(hm:a.length=m)(hlen:m≤1000):Ev prog (.call 43 [.c (.sl 0 0 m cap 1)] [.row false (.ai a)]) (.val (.c (.is a)) [.row false (.ai a)]):=
 Ev.semF fun ι w vs hR hargs=>by
  match hvs:vs.toList,hargs with
  |[v3],hargs=>
   obtain ⟨h3,_⟩:=hargs
   have hv:vs= #[v3]:=by rw [←Array.toList_inj,hvs]
   subst hv
   refine (mA a v3 w (dS hR (b:=0) rfl hm h3) O_).mono fun e w' ⟨v',he,ho,hb⟩=>?_
   obtain ⟨ι',h1,h2⟩:=qw hR hb ho
   exact ⟨v',ι',he,h1,h2⟩
theorem bnA{p:Prop} [Decidable p] (h:p):((!decide p)==false)=true:=by simp [h]
theorem bnB{p:Prop} [Decidable p] (h:¬p):((!decide p)==true)=true:=by simp [h]
theorem bnC{p:Prop} [Decidable p] (h:p):((!decide p)==true)=false:=by simp [h]
theorem bnD{p:Prop} [Decidable p] (h:¬p):((!decide p)==false)=false:=by simp [h]
theorem Cv{p:Prop}(h:p:=by first | rfl | exact HJ rfl rfl rfl rfl | exact HJ rfl rfl rfl (AAG O_) | exact HJ rfl rfl rfl (AAF O_) | exact HJ rfl rfl rfl (uq O_) | exact HJ rfl rfl rfl (vP O_) | exact cE rfl rfl rfl | exact HJ rfl rfl rfl D_ | exact HJ rfl rfl rfl (bnA O_) | exact HJ rfl rfl rfl (bnB O_) | exact HJ rfl rfl rfl (bnC O_) | exact HJ rfl rfl rfl (bnD O_) | fail):p:=h
theorem NQ(b o:Nat):BS prog 75 (.c (.ptr b o)) 0=some (.c (.ptr b (o+0))):=by kernel_rfl
theorem SL(b o:Nat):BS prog 75 (.c (.ptr b o)) 1=some (.c (.ptr b (o+1))):=by kernel_rfl
theorem vF:De prog 91=some 4:=by kernel_rfl
theorem sd(b o:Nat):BS prog 91 (.c (.ptr b o)) 0=some (.c (.ptr b (o+0))):=by kernel_rfl
theorem uD(b o:Nat):BS prog 91 (.c (.ptr b o)) 1=some (.c (.ptr b (o+1))):=by kernel_rfl
theorem ZI(b o:Nat):BS prog 91 (.c (.ptr b o)) 2=some (.c (.ptr b (o+2))):=by kernel_rfl
theorem td(b o:Nat):BS prog 91 (.c (.ptr b o)) 3=some (.c (.ptr b (o+3))):=by kernel_rfl
abbrev A5(f:Nat):Prop:=(prog.funcs[f]?).any (fun fn=>fn.body.isSome&& !(fn.name== "runtime.NumGoroutine"))=true
theorem A8{f:Nat}{x:Func}(h:prog.funcs[f]?=some x)(k:(x.body.isSome&& !(x.name== "runtime.NumGoroutine"))=true:=by rfl):A5 f:=by unfold A5;rw [h];exact k
theorem vR:A5 43:=A8 func43
theorem AAm:A5 68:=A8 func68
section
variable {P:Program} {T:Nat→AV} {M M':Ak} {t t':TypeId} {x y z:Operand} {a b:Int}
theorem em(hx:AC T x= .c (.val (.int .i64 a)))(hy:AC T y= .c (.val (.int .i64 b))):AL P (AC T) M (.binOp .eql t x y t')=some (.c (.val (.bool (decide (a=b))))):=xF hx hy
theorem WJ(hx:AC T x= .c (.val (.int .i64 a)))(hy:AC T y= .c (.val (.int .i64 b))):AL P (AC T) M (.binOp .neq t x y t')=some (.c (.val (.bool (!decide (a=b))))):=xK hx hy
theorem AAl{op:Op}{e:Operand→AV}{m:Ak}{v:AV}(h:Ev P (.op op e m) (.val v (m++[]))):Ev P (.op op e m) (.val v m):=by rwa [List.append_nil] at h
theorem YY{b o:Nat}{c:Cell}{u w:Arr}(ha:AC T x= .c (.ptr b o))(hv:AC T y= .c c)(hm:M[b]?=some (.row true u))(h1:c.one=true)(hs:De P t=some 1)(ho:o<u.size)(hz:u.set o c=some w)(hM:M.set b (.row true w)=M'):
  Ev P (.op (.store t x y) (AC T) M) (.val (.c .any) M'):=
 Ev.mem (by simp [CP,Ic,ha,hv,hm,h1,hs,ho,hz,hM])
end
section
variable {P:Program} {T:Nat→AV} {M:Ak} {x y z:Operand}
theorem ag{t:TypeId}{ps:Array (Nat×Operand)}{l:List (Nat×AV)}{v:AV}(hl:ps.toList.map (fun p=>(p.1,AC T p.2))=l)(h:B0 P t l=some v):AL P (AC T) M (.build t ps)=some v:=by subst hl;exact h
theorem ABB{t:TypeId}{n:Nat}{ps:Array (Nat×Operand)}{l:List (Nat×AV)}{r:AV×Ak}(hl:ps.toList.map (fun p=>(p.1,AC T p.2))=l)(h:Cq P M t n l=some r):CP P (AC T) M (.buildSlice t n ps)=some r:=by subst hl;exact h
end
section
variable {T:Nat→AV} {M:Ak} {x y z:Operand}
theorem AAb(k n:Int)(a:List Int):B0 prog 58 [(0,.c (.val (.int .i64 k))),(1,.c (.val (.int .i64 n))),(2,.c (.is a))]=some (.agg (.ac [.val (.int .i64 k),.val (.int .i64 n),.is a])):=by kernel_rfl
theorem ABd(M:Ak)(k n:Int)(a:List Int):Cq prog M 53 1 [(0,.agg (.ac [.val (.int .i64 k),.val (.int .i64 n),.is a]))]=some (.c (.sl M.length 0 1 1 3),M++[.row true (.ac [.val (.int .i64 k),.val (.int .i64 n),.is a])]):=by kernel_rfl
theorem AAg(b:Nat):B0 prog 75 [(1,.c (.mp b))]=some (.agg (.ac [.nsl,.mp b])):=by kernel_rfl
theorem Ux{k n:Int}{a:List Int}(hx:AC T x= .c (.val (.int .i64 k)))(hy:AC T y= .c (.val (.int .i64 n)))(hz:AC T z= .c (.is a)):
  AL prog (AC T) M (.build 58 #[(0,x),(1,y),(2,z)])=some (.agg (.ac [.val (.int .i64 k),.val (.int .i64 n),.is a])):=
 ag (by simp [hx,hy,hz]) (AAb k n a)
theorem dx{k n:Int}{a:List Int}{m:Nat}(hx:AC T x= .agg (.ac [.val (.int .i64 k),.val (.int .i64 n),.is a]))(hm:M.length=m):
  CP prog (AC T) M (.buildSlice 53 1 #[(0,x)])=some (.c (.sl m 0 1 1 3),M++[.row true (.ac [.val (.int .i64 k),.val (.int .i64 n),.is a])]):=by
 subst hm
 exact ABB (by simp [hx]) (ABd M k n a)
theorem su{b:Nat}(hx:AC T x= .c (.mp b)):AL prog (AC T) M (.build 75 #[(1,x)])=some (.agg (.ac [.nsl,.mp b])):=
 ag (by simp [hx]) (AAg b)
end
theorem oK{P:Program}{k N:Nat}{c:Code}{T:Nat→AV}{M M':Ak}{Φ:Ex→St→Prop}(b i sz:Nat)(x:Arr){l:List Cell}(_hx:x.size=0)(hb:M[b]?=some (.row true (.ac l)))(hi:l[i]?=some .nsl)(hM:M.set b (.row true (.ac (l.set i (.sl M.length 0 0 0 sz))))++[.row true x]=M')(h:WC P k c ⟨N,T,M'⟩ Φ):WC P k c ⟨N,T,M⟩ Φ:=by
 subst hM
 obtain ⟨e,r,h1,h2⟩:=h.h
 refine ⟨⟨e,r,Ev.weak (fun ι w a hk hR hf=>⟨ι,hf.mono (.refl ι) _,?_⟩) h1,h2⟩⟩
 have hst:=Xi (k:=k) (y:= .ac (l.set i (.sl M.length 0 0 0 sz))) hk hR hb rfl rfl (by simp [Arr.size]) (fun ι j v hj hv=>by
  simp only [Arr.get,Ti,List.getD_eq_getElem?_getD,List.getElem?_set] at hv ⊢
  by_cases hij:i=j
  ·subst hij
   have hj':i<l.length:=hj
   rw [if_pos rfl,if_pos hj']
   rw [hi] at hv
   obtain rfl:v= .slice none 0 0:=hv
   exact ⟨none,0,rfl,Nat.le_refl _,Nat.le_refl _,.inl rfl⟩
  ·rw [if_neg hij];exact hv) (fun h=>by cases h)
 have hl:(M.set b (.row true (.ac (l.set i (.sl M.length 0 0 0 sz))))).length=M.length:=by simp
 exact hst.comp (bi (by rw [hl];exact hk) hst.r)
theorem Bv:BC prog 3=some false:=by kernel_rfl
theorem N8:De prog 3=some 1:=by kernel_rfl
theorem QK:Bi prog 3=some (1,8):=by kernel_rfl
theorem XX:BC prog 4=some false:=by kernel_rfl
theorem pf:De prog 4=some 1:=by kernel_rfl
theorem AAi:Bi prog 4=some (1,1):=by kernel_rfl
theorem bZ:BC prog 5=some false:=by kernel_rfl
theorem Bz:De prog 5=some 1:=by kernel_rfl
theorem AAR(n:Nat):JG prog 5 n=some (.a8 (Ag n)):=by kernel_rfl
theorem Gb:Bi prog 5=some (1,1):=by kernel_rfl
theorem Qq:BC prog 23=some false:=by kernel_rfl
theorem Nn:De prog 23=some 1:=by kernel_rfl
theorem qA(n:Nat):JG prog 23 n=some (.ac (List.replicate n .nsl)):=by kernel_rfl
theorem nA:Bi prog 23=some (1,24):=by kernel_rfl
theorem Ld:BC prog 37=some true:=by kernel_rfl
theorem J9:De prog 37=some 32:=by kernel_rfl
theorem QX(m:Ak):Cp prog m 37=some (.c (.ptr m.length 0),m++[.row true (.a8 (Ag 32))]):=by kernel_rfl
theorem AAv:(prog.info? 37).bind (fun i=>i.zero.map (·.cells.size))=some 32:=by kernel_rfl
theorem pO:(prog.info? 37).bind (fun i=>i.zero.map (fun z=>B5 z.cells.toList))=some (.a8 (Ag 32)):=by kernel_rfl
theorem TB:BC prog 41=some false:=by kernel_rfl
theorem zT:De prog 41=some 1:=by kernel_rfl
theorem xL:BC prog 42=some false:=by kernel_rfl
theorem Yy:BC prog 53=some false:=by kernel_rfl
theorem qF:De prog 53=some 1:=by kernel_rfl
theorem Uz(b o:Nat):BS prog 55 (.c (.ptr b o)) 0=some (.c (.ptr b (o+0))):=by kernel_rfl
theorem N9:BC prog 58=some true:=by kernel_rfl
theorem Ly:De prog 58=some 3:=by kernel_rfl
theorem oo(m:Ak):Cp prog m 58=some (.c (.ptr m.length 0),m++[.row true (.ac [.val (.int .i64 0),.val (.int .i64 0),.nsl])]):=by kernel_rfl
theorem jY(b o:Nat):BS prog 58 (.c (.ptr b o)) 0=some (.c (.ptr b (o+0))):=by kernel_rfl
theorem jk(b o:Nat):BS prog 58 (.c (.ptr b o)) 1=some (.c (.ptr b (o+1))):=by kernel_rfl
theorem jb(b o:Nat):BS prog 58 (.c (.ptr b o)) 2=some (.c (.ptr b (o+2))):=by kernel_rfl
theorem rW:Bi prog 58=some (3,40):=by kernel_rfl
theorem NR:BC prog 70=some false:=by kernel_rfl
theorem BX:De prog 70=some 1:=by kernel_rfl
theorem zk:Bi prog 70=some (1,8):=by kernel_rfl
theorem Vj:BC prog 73=some false:=by kernel_rfl
theorem ra:BC prog 85=some false:=by kernel_rfl
theorem Uk(b o:Nat):BS prog 87 (.c (.ptr b o)) 0=some (.c (.ptr b (o+0))):=by kernel_rfl
theorem jd(b o:Nat):BS prog 87 (.c (.ptr b o)) 1=some (.c (.ptr b (o+1))):=by kernel_rfl
theorem eS:BC prog 98=some true:=by kernel_rfl
theorem mr:De prog 98=some 12:=by kernel_rfl
theorem zQ:(prog.info? 98).bind (fun i=>i.zero.map (fun z=>B5 z.cells.toList))=some (.a8 (Ag 12)):=by kernel_rfl
theorem QC:BC prog 105=some true:=by kernel_rfl
theorem Qu:De prog 105=some 64:=by kernel_rfl
theorem xl(m:Ak):Cp prog m 105=some (.c (.ptr m.length 0),m++[.row true (.a8 (Ag 64))]):=by kernel_rfl
theorem aS:BC prog 106=some false:=by kernel_rfl
theorem Cd:De prog 106=some 1:=by kernel_rfl
theorem vk:Bi prog 106=some (1,4):=by kernel_rfl
theorem sY:BC prog 107=some true:=by kernel_rfl
theorem Zf:De prog 107=some 8:=by kernel_rfl
theorem oJ(m:Ak):Cp prog m 107=some (.c (.ptr m.length 0),m++[.row true (.a32 (OJ 8))]):=by kernel_rfl
theorem oz:(prog.info? 107).bind (fun i=>i.zero.map (·.cells.size))=some 8:=by kernel_rfl
theorem xJ(m:Ak):Cp prog m 111=some (.c (.ptr m.length 0),m++[.row true (.a32 (OJ 64))]):=by kernel_rfl
theorem Mr:BC prog 121=some true:=by kernel_rfl
theorem OX:De prog 121=some 16:=by kernel_rfl
theorem gO(m:Ak):Cp prog m 121=some (.c (.ptr m.length 0),m++[.row true (.a8 (Ag 16))]):=by kernel_rfl
theorem yK:De prog 127=some 4:=by kernel_rfl
theorem oM(m:Ak):Cp prog m 127=some (.c (.ptr m.length 0),m++[.row true (.a64 (Aj 4))]):=by kernel_rfl
theorem yL:(prog.info? 127).bind (fun i=>i.zero.map (·.cells.size))=some 4:=by kernel_rfl
theorem tW:BC prog 153=some true:=by kernel_rfl
theorem Zs:De prog 153=some 8:=by kernel_rfl
theorem pQ(m:Ak):Cp prog m 153=some (.c (.ptr m.length 0),m++[.row true (.a64 (Aj 8))]):=by kernel_rfl
theorem nU:(prog.info? 153).bind (fun i=>i.zero.map (·.cells.size))=some 8:=by kernel_rfl
theorem Zz:BC prog 155=some true:=by kernel_rfl
theorem Ya:De prog 155=some 4:=by kernel_rfl
theorem xz(m:Ak):Cp prog m 155=some (.c (.ptr m.length 0),m++[.row true (.a64 (Aj 4))]):=by kernel_rfl
theorem xY:(prog.info? 155).bind (fun i=>i.zero.map (·.cells.size))=some 4:=by kernel_rfl
theorem rT(m:Ak):Cp prog m 159=some (.c (.ptr m.length 0),m++[.row true (.a64 (Aj 5))]):=by kernel_rfl
theorem GM:BC prog 160=some true:=by kernel_rfl
theorem Fe:De prog 160=some 5:=by kernel_rfl
theorem PU(m:Ak):Cp prog m 160=some (.c (.ptr m.length 0),m++[.row true (.a64 (Aj 5))]):=by kernel_rfl
theorem nM:(prog.info? 160).bind (fun i=>i.zero.map (·.cells.size))=some 5:=by kernel_rfl
theorem wE:(prog.info? 160).bind (fun i=>i.zero.map (fun z=>B5 z.cells.toList))=some (.a64 (Aj 5)):=by kernel_rfl
theorem SR:BC prog 162=some true:=by kernel_rfl
theorem T3:De prog 162=some 20:=by kernel_rfl
theorem xS(m:Ak):Cp prog m 162=some (.c (.ptr m.length 0),m++[.row true (.a64 (Aj 20))]):=by kernel_rfl
theorem O9(b o:Nat):BS prog 162 (.c (.ptr b o)) 0=some (.c (.ptr b (o+0))):=by kernel_rfl
theorem Ol(b o:Nat):BS prog 162 (.c (.ptr b o)) 1=some (.c (.ptr b (o+5))):=by kernel_rfl
theorem SD(b o:Nat):BS prog 162 (.c (.ptr b o)) 2=some (.c (.ptr b (o+10))):=by kernel_rfl
theorem cQ(b o:Nat):BS prog 162 (.c (.ptr b o)) 3=some (.c (.ptr b (o+15))):=by kernel_rfl
theorem fo:B0 prog 162 []=some (.agg (.a64 (Aj 20))):=ZW K_ K_
theorem nF{a b c d:AB 64}(ha:a.length=5)(hb:b.length=5)(hc:c.length=5)(hd:d.length=5):B0 prog 162 [(0,.agg (.a64 a)),(1,.agg (.a64 b)),(2,.agg (.a64 c)),(3,.agg (.a64 d))]=some (.agg (.a64 (a++b++c++d))):=by
 rw [OA (x:= .a64 (Aj 20)) (places:=[(0,5),(5,5),(10,5),(15,5)]) K_ K_]
 rw [show Aj 20=Aj (5+5+5+5) from rfl,kE (n:=5) rfl rfl rfl rfl ha hb hc hd]
 rfl
theorem rx:BC prog 181=some true:=by kernel_rfl
theorem eG:De prog 181=some 16:=by kernel_rfl
theorem qr(m:Ak):Cp prog m 181=some (.c (.ptr m.length 0),m++[.row true (.a32 (OJ 16))]):=by kernel_rfl
theorem wC:(prog.info? 181).bind (fun i=>i.zero.map (fun z=>B5 z.cells.toList))=some (.a32 (OJ 16)):=by kernel_rfl
theorem wc(m:Ak):Cp prog m 201=some (.c (.ptr m.length 0),m++[.row true (.a64 (Aj 80))]):=by kernel_rfl
theorem ZG:BC prog 213=some true:=by kernel_rfl
theorem aH:De prog 213=some 5:=by kernel_rfl
theorem vw(m:Ak):Cp prog m 213=some (.c (.ptr m.length 0),m++[.row true (.a64 (Aj 5))]):=by kernel_rfl
theorem yH(m:Ak):Cp prog m 226=some (.c (.ptr m.length 0),m++[.row true (.a64 (Aj 9))]):=by kernel_rfl
theorem AAE:A5 11:=A8 func11
theorem vj:A5 12:=A8 func12
theorem uO:A5 13:=A8 func13
theorem nl:A5 14:=A8 func14
theorem uy:A5 15:=A8 func15
theorem XV:A5 17:=A8 func17
theorem Nl:A5 19:=A8 func19
theorem uU:A5 20:=A8 func20
theorem K1:A5 21:=A8 func21
theorem iU:A5 22:=A8 func22
theorem cR:A5 23:=A8 func23
theorem ABA:A5 24:=A8 func24
theorem vW:A5 25:=A8 func25
theorem rg:A5 26:=A8 func26
theorem ABO:A5 28:=A8 func28
theorem zp:A5 30:=A8 func30
theorem uc:A5 32:=A8 func32
theorem iz:A5 33:=A8 func33
theorem gT:A5 35:=A8 func35
theorem ux:A5 36:=A8 func36
theorem Ry:A5 38:=A8 func38
theorem iK:A5 40:=A8 func40
theorem dh:A5 41:=A8 func41
theorem qD:A5 42:=A8 func42
theorem ut:A5 44:=A8 func44
theorem vY:A5 45:=A8 func45
theorem YS:A5 46:=A8 func46
theorem vD:A5 47:=A8 func47
theorem oL:A5 48:=A8 func48
theorem iw:A5 49:=A8 func49
theorem pX:A5 50:=A8 func50
theorem vK:A5 51:=A8 func51
theorem ABG:A5 52:=A8 func52
theorem uR:A5 53:=A8 func53
theorem ii:A5 55:=A8 func55
theorem va:A5 58:=A8 func58
theorem AAW:A5 60:=A8 func60
theorem vL:A5 61:=A8 func61
theorem uZ:A5 62:=A8 func62
theorem Ku:A5 63:=A8 func63
theorem UK:A5 69:=A8 func69
theorem AAQ:A5 70:=A8 func70
theorem AAP:A5 71:=A8 func71
theorem qZ:A5 72:=A8 func72
theorem qS:A5 73:=A8 func73
theorem mW:A5 74:=A8 func74
theorem nG:A5 75:=A8 func75
theorem ve:A5 76:=A8 func76
theorem vV:A5 79:=A8 func79
theorem AAu:A5 80:=A8 func80
theorem jB:A5 90:=A8 func90
theorem qt:A5 91:=A8 func91
theorem dO:A5 92:=A8 func92
theorem vf:A5 93:=A8 func93
theorem jf:A5 94:=A8 func94
theorem fy:A5 101:=A8 func101
theorem qN:A5 103:=A8 func103
theorem oH:A5 104:=A8 func104
theorem wx:A5 105:=A8 func105
theorem vx:A5 106:=A8 func106
theorem vy:A5 107:=A8 func107
theorem qU:A5 108:=A8 func108
theorem rA:A5 109:=A8 func109
theorem qI:A5 115:=A8 func115
theorem nP:A5 116:=A8 func116
theorem Yt:A5 123:=A8 func123
theorem fl:A5 124:=A8 func124
theorem ZA:A5 125:=A8 func125
theorem RE:A5 126:=A8 func126
theorem qk:A5 127:=A8 func127
theorem fz:A5 128:=A8 func128
theorem fD:A5 129:=A8 func129
theorem qo:A5 130:=A8 func130
theorem yW:A5 131:=A8 func131
theorem wm:A5 132:=A8 func132
theorem nO:A5 144:=A8 func144
theorem wb:A5 145:=A8 func145
theorem qd:A5 146:=A8 func146
theorem xT:A5 147:=A8 func147
theorem nN:A5 148:=A8 func148
theorem Od:A5 149:=A8 func149
theorem qJ:A5 153:=A8 func153
theorem RC:A5 154:=A8 func154
theorem Hs:A5 155:=A8 func155
theorem Gy:A5 156:=A8 func156
theorem Ht:A5 157:=A8 func157
theorem Bb:A5 158:=A8 func158
theorem Ss:A5 159:=A8 func159
theorem LV:A5 160:=A8 func160
theorem jm:Wb prog 161 sub64Entry:=⟨⟨_,func161,K_,K_,K_,by kernel_rfl⟩⟩
theorem U2:Wb prog 162 add64Entry:=⟨⟨_,func162,K_,K_,K_,by kernel_rfl⟩⟩
theorem dm:A5 163:=A8 func163
theorem aQ:A5 164:=A8 func164
theorem OE:A5 165:=A8 func165
theorem aj:A5 166:=A8 func166
theorem fj:A5 167:=A8 func167
theorem yp:A5 168:=A8 func168
theorem gM:A5 169:=A8 func169
theorem xG:A5 170:=A8 func170
end Go.Proofs.YtmbepikkgkcgkaaGreatDoor
