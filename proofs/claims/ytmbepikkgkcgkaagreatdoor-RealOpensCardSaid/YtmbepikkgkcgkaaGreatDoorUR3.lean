/- Merged and shortened by a program: part 3. -/
import Derived.Test.YtmbepikkgkcgkaaGreatDoorUR2
set_option maxRecDepth 100000
set_option maxHeartbeats 8000000
namespace Go.Proofs.YtmbepikkgkcgkaaGreatDoor
open Go.RowKit
variable {g r : Prop}
open Go.Proofs.Tryz
def Emb.upto(c:Nat)(ι:Emb):Emb:=⟨fun b=>if b<c then ι b else none,ι.tx⟩
theorem ZP(c:Nat)(ι:Emb):(ι.upto c).le ι:=by
 refine ⟨fun b l h=>?_,fun _ _ _ h=>h⟩
 unfold Emb.upto at h
 dsimp only at h
 split at h
 ·exact h
 ·cases h
theorem fa{c:Nat}{ι ι':Emb}(h:ι.le ι'):(ι.upto c).le (ι'.upto c):=by
 refine ⟨fun b l hb=>?_,h.tx⟩
 unfold Emb.upto at hb ⊢
 dsimp only at hb ⊢
 split at hb
 ·rename_i hc;rw [if_pos hc];exact h.f b l hb
 ·cases hb
theorem rZ{c c':Nat}(ι:Emb)(h:c≤c'):(ι.upto c).le (ι.upto c'):=by
 refine ⟨fun b l hb=>?_,fun _ _ _ h=>h⟩
 unfold Emb.upto at hb ⊢
 dsimp only at hb ⊢
 split at hb
 ·rw [if_pos O_];exact hb
 ·cases hb
theorem G7{m:Az}{b:Nat}{own:Bool}{x:Arr}(h:(Bv m)[b]?=some (.row own x)):own=false∧ ∃o,m[b]?=some (.row o x):=by
 unfold Bv at h
 rw [List.getElem?_map] at h
 obtain ⟨r,hr,e⟩:=Option.map_eq_some_iff.1 h
 cases r with
 |dead=>cases e
 |row o y=>cases e;exact ⟨rfl,o,hr⟩
theorem Ce(m:Az):(Bv m).length=m.length:=by simp [Bv]
structure LW(ops:Array Oper)(n:Nat)(A:Nat→St)(W:Nat→Bool)(V:Nat→AV)(N:Nat→Az)(N0:Nat):Prop where
 hn:n≤ops.size
 h0:(A 0).n=N0
 step:∀i o,i<n→ops[i]?=some o→A (i+1)=if W i=true then ⟨N0,DX (A i).t o.dst (V i),(A i).m++N i⟩ else ⟨N0,DX (A i).t o.dst wj,(A i).m⟩
section
variable {ops:Array Oper} {n:Nat} {A:Nat→St} {W:Nat→Bool} {V:Nat→AV} {N:Nat→Az} {N0:Nat}
theorem LW.at(h:LW ops n A W V N N0){i:Nat}(hi:i<n):∃o,ops[i]?=some o:=⟨ops[i]'(by have:=h.hn;omega),Array.getElem?_eq_getElem _⟩
theorem LW.mem1(h:LW ops n A W V N N0){i:Nat}(hi:i<n):(A i).m.length≤(A (i+1)).m.length∧ ∀b,b<(A i).m.length→(A (i+1)).m[b]?=(A i).m[b]?:=by
 obtain ⟨o,ho⟩:=h.at hi
 rw [h.step i o hi ho]
 split
 ·exact ⟨by simp,fun b hb=>List.getElem?_append_left hb⟩
 ·exact ⟨Nat.le_refl _,fun b _=>rfl⟩
theorem LW.mem(h:LW ops n A W V N N0){i:Nat}:∀d,i+d≤n→(A i).m.length≤(A (i+d)).m.length∧ ∀b,b<(A i).m.length→(A (i+d)).m[b]?=(A i).m[b]?
 |0,_=>⟨Nat.le_refl _,fun _ _=>rfl⟩
 |d+1,hd=>by
  obtain ⟨h1,h2⟩:=LW.mem h (i:=i) d O_
  obtain ⟨h3,h4⟩:=h.mem1 (i:=i+d) O_
  exact ⟨Nat.le_trans h1 h3,fun b hb=>by rw [show i+(d+1)=i+d+1 by omega,h4 b O_,h2 b hb]⟩
theorem LW.len(h:LW ops n A W V N N0){i j:Nat}(hij:i≤j)(hj:j≤n):(A i).m.length≤(A j).m.length:=by
 have:=(h.mem (i:=i) (j-i) O_).1
 rwa [show i+(j-i)=j by omega] at this
theorem LW.row(h:LW ops n A W V N N0){i j b:Nat}(hij:i≤j)(hj:j≤n)(hb:b<(A i).m.length):(A j).m[b]?=(A i).m[b]?:=by
 have:=(h.mem (i:=i) (j-i) O_).2 b hb
 rwa [show i+(j-i)=j by omega] at this
theorem LW.tmp1(h:LW ops n A W V N N0){i:Nat}(hi:i<n){t:Nat}(ht:Bm ops i≠some t):(A (i+1)).t t=(A i).t t:=by
 obtain ⟨o,ho⟩:=h.at hi
 have hd:Bm ops i=o.dst:=by simp [Bm,ho]
 rw [hd] at ht
 rw [h.step i o hi ho]
 have key:∀v,DX (A i).t o.dst v t=(A i).t t:=by
  intro v
  cases hdd:o.dst with
  |none=>rfl
  |some d=>
   rw [hdd] at ht
   exact upd_ne _ _ (fun e=>ht (by rw [e]))
 split
 ·exact key _
 ·exact key _
theorem LW.tmp(h:LW ops n A W V N N0){i t:Nat}:∀d,i+d≤n→(∀j,i≤j→j<i+d→Bm ops j≠some t)→(A (i+d)).t t=(A i).t t
 |0,_,_=>rfl
 |d+1,hd,hno=>by
  rw [show i+(d+1)=i+d+1 by omega,h.tmp1 O_ (hno _ O_ O_),LW.tmp h d O_ fun j h1 h2=>hno j h1 O_]
theorem LW.slot(h:LW ops n A W V N N0){i j t:Nat}(hij:i≤j)(hj:j≤n)(hno:∀l,i≤l→l<j→Bm ops l≠some t):(A j).t t=(A i).t t:=by
 have:=h.tmp (i:=i) (t:=t) (j-i) O_ (fun l h1 h2=>hno l h1 O_)
 rwa [show i+(j-i)=j by omega] at this
def rU(n:Nat)(A:Nat→St)(ι:Emb)(w:World):Prop:= ∀i b l own x,i≤n→b<(A i).m.length→ι b=some l→(A n).m[b]?=some (.row own x)→Holds (ι.upto (A i).m.length) w own x l
structure ZD(ops:Array Oper)(n:Nat)(A:Nat→St)(ι0:Emb)(w0:World)(a0:Act)(listed:Array Bool)(ι:Emb)(a:Act)(w:World):Prop where
 low:∀b,b<(A 0).m.length→ι b=ι0 b
 seg:∀b l,ι b=some l→b<(A 0).m.length∨ ∃j,j<n∧listed.getD j false=true∧(A j).m.length≤b∧b<(A (j+1)).m.length
 r:R ι (A n).m w
 hit:∀j,j<n→listed.getD j false=true→ ∀d,Bm ops j=some d→((A (j+1)).t d).rel (ι.upto (A (j+1)).m.length) (a.tmps.getD d undef)
 miss:∀t,(∀j,j<n→listed.getD j false=true→Bm ops j≠some t)→a.tmps.getD t undef=a0.tmps.getD t undef
 size:a.tmps.size=a0.tmps.size
 defers:a.defers=a0.defers
 head:HeadInv .any ops n listed
 ext:Below w0.heap.size w0 w
 fresh:∀b l own x,(A 0).m.length≤b→ι b=some l→(A n).m[b]?=some (.row own x)→w0.heap.size≤l.c
 cells:rU n A ι w
 tx:∀c o v,ι0.tx c o v→ι.tx c o v
 txn:∀c o v,ι.tx c o v→ι0.tx c o v∨w0.heap.size≤c
theorem ZD.next(hl:LW ops n A W V N N0){ι0:Emb}{w0:World}{a0:Act}(hok:wm ops n a0.tmps.size){listed:Array Bool}{ι:Emb}{a:Act}{w:World}(h:ZD ops n A ι0 w0 a0 listed ι a w)
  {i:Nat} (hi:i∈Region.ready .any ops listed) (hin:i<n) {o:Oper} (ho:ops[i]?=some o) {ι':Emb} {u:Value} {w':World} (hle:ι.le ι')
  (hseg:∀b,¬((A i).m.length≤b∧b<(A (i+1)).m.length)→ι' b=ι b) (hr:R ι' (A n).m w') (hu:∀d,o.dst=some d→((A (i+1)).t d).rel (ι'.upto (A (i+1)).m.length) u) (hext:Below w.heap.size w w')
  (hfr:∀b l own x,(A i).m.length≤b→b<(A (i+1)).m.length→ι' b=some l→(A n).m[b]?=some (.row own x)→w.heap.size≤l.c)
  (hce:∀b l own x,(A i).m.length≤b→b<(A (i+1)).m.length→ι' b=some l→(A n).m[b]?=some (.row own x)→Holds (ι'.upto (A (i+1)).m.length) w' own x l) (htx:∀c o v,ι'.tx c o v→ι.tx c o v∨w.heap.size≤c):
  ZD ops n A ι0 w0 a0 (listed.setIfInBounds i true) ι' (a.put o.dst u) w':=by
 have hrd:=mem_ready.1 hi
 have hun:listed.getD i false=false:=getD_both hrd.1
 have his:i<listed.size:=by rw [h.head.size];exact (Array.getElem?_eq_some_iff.1 ho).1
 have hd:Bm ops i=o.dst:=by simp [Bm,ho]
 have hset:∀j,(listed.setIfInBounds i true).getD j false=true→j=i∨listed.getD j false=true:=fun j hj=>by
  by_cases hji:i=j
  ·exact .inl hji.symm
  ·rw [getD_set_ne false hji] at hj;exact .inr hj
 have hseti:(listed.setIfInBounds i true).getD i false=true:=by simp [his]
 have h0i:=hl.len (Nat.zero_le i) (Nat.le_of_lt hin)
 refine ⟨fun b hb=>by rw [hseg b O_,h.low b hb],fun b l hb=>?_,hr,fun j hj hlj d hdj=>?_,fun t ht=>?_,by rw [show (a.put o.dst u).tmps.size=a.tmps.size by cases o.dst<;>simp [Act.put]];exact h.size,by rw [show (a.put o.dst u).defers=a.defers by cases o.dst<;>rfl];exact h.defers,h.head.set hi hin,h.ext.trans (Below.mono hext h.ext.size),fun b l own x hb h1 h2=>?_,fun j b l own x hj hb h1 h2=>?_,fun c o v hc=>hle.tx c o v (h.tx c o v hc),fun c o v hc=>?_⟩
 ·by_cases hs:(A i).m.length≤b∧b<(A (i+1)).m.length
  ·exact .inr ⟨i,hin,hseti,hs⟩
  ·rw [hseg b hs] at hb
   rcases h.seg b l hb with h1 | ⟨j,h1,h2,h3⟩
   ·exact .inl h1
   ·exact .inr ⟨j,h1,getD_set_true h2,h3⟩
 ·by_cases hji:j=i
  ·subst hji
   rw [hd] at hdj
   rw [hdj,SB a d d u (by rw [h.size];exact hok.lt j d hj (by rw [hd];exact hdj)),if_pos rfl]
   exact hu d hdj
  ·have hlj':=(hset j hlj).resolve_left hji
   have hne:o.dst≠some d:=fun e=>hji (hok.uniq j i d hj hin hdj (by rw [hd];exact e))
   have hg:(a.put o.dst u).tmps.getD d undef=a.tmps.getD d undef:=by
    cases hod:o.dst with
    |none=>rfl
    |some d'=>
     rw [hod] at hne
     simp only [Act.put,Array.getD_eq_getD_getElem?]
     rw [Array.getElem?_setIfInBounds_ne (fun e=>hne (by rw [e]))]
   rw [hg]
   exact AV.rel_mono (fa hle) (h.hit j hj hlj' d hdj)
 ·have h1:o.dst≠some t:=by rw [←hd];exact ht i hin hseti
  have hg:(a.put o.dst u).tmps.getD t undef=a.tmps.getD t undef:=by
   cases hod:o.dst with
   |none=>rfl
   |some d'=>
    rw [hod] at h1
    simp only [Act.put,Array.getD_eq_getD_getElem?]
    rw [Array.getElem?_setIfInBounds_ne (fun e=>h1 (by rw [e]))]
  rw [hg]
  exact h.miss t fun j hj hlj=>ht j hj (getD_set_true hlj)
 ·by_cases hs:(A i).m.length≤b∧b<(A (i+1)).m.length
  ·exact Nat.le_trans h.ext.size (hfr b l own x hs.1 hs.2 h1 h2)
  ·rw [hseg b hs] at h1
   exact h.fresh b l own x hb h1 h2
 ·by_cases hs:(A i).m.length≤b∧b<(A (i+1)).m.length
  ·have hij:i+1≤j:=by
    rcases Nat.lt_or_ge i j with h' | h'
    ·exact h'
    ·have:=hl.len h' (Nat.le_of_lt hin);omega
   exact (hce b l own x hs.1 hs.2 h1 h2).mono (rZ ι' (hl.len hij hj))
  ·rw [hseg b hs] at h1
   have hlt:=h.r.lt h1 h2
   exact (h.cells j b l own x hj hb h1 h2).heap (hext.block l.c hlt) (fa hle)
 ·rcases htx c o v hc with h1 | h1
  ·exact h.txn c o v h1
  ·exact .inr (Nat.le_trans h.ext.size h1)
theorem ACQ(hl:LW ops n A W V N N0){ι:Emb}{w:World}(hR:R ι (A n).m w)(hc:rU n A ι w){i:Nat}(hi:i≤n):R (ι.upto (A i).m.length) (Bv (A i).m) w:=by
 refine ⟨fun b hb=>if_neg (by rw [Ce] at hb;omega),fun b l own x h1 h2=>?_,fun b b' l l' own own' x x' hne h1 h2 k1 k2 ho=>?_,fun c Φ hc=>⟨(hR.stay c Φ (hc.to _)).1,fun b l x _ hm _=>by obtain ⟨h,_⟩:=G7 hm;cases h⟩⟩
 ·obtain ⟨rfl,o,hm⟩:=G7 h2
  have hb:b<(A i).m.length:=(List.getElem?_eq_some_iff.1 hm).1
  have h1':ι b=some l:=(ZP _ _).f b l h1
  have hm':(A n).m[b]?=some (.row o x):=by rw [hl.row hi (Nat.le_refl _) hb];exact hm
  exact (hc i b l o x hi hb h1' hm').ro
 ·obtain ⟨rfl,_⟩:=G7 k1
  obtain ⟨rfl,_⟩:=G7 k2
  rcases ho with h | h<;>cases h
theorem Jz{ι:Emb}{m:Az}{c:Nat}(h:Dv ι (Bv m) c):False:=by
 obtain ⟨b,l,x,_,hm,_⟩:=h
 obtain ⟨h,_⟩:=G7 hm
 cases h
theorem AJC{ι:Emb}{m:Az}{w:World}(h:R ι m w):R ι (Bv m) w:=by
 refine ⟨fun b hb=>h.dom b (by rw [Ce] at hb;exact hb),fun b l own x h1 h2=>?_,fun b b' l l' own own' x x' _ _ _ k1 k2 ho=>?_,fun c Φ hc=>⟨(h.stay c Φ (hc.to _)).1,fun b l x _ hm _=>by obtain ⟨h,_⟩:=G7 hm;cases h⟩⟩
 ·obtain ⟨rfl,o,hm⟩:=G7 h2
  exact (h.rows b l o x h1 hm).ro
 ·obtain ⟨rfl,_⟩:=G7 k1
  obtain ⟨rfl,_⟩:=G7 k2
  rcases ho with h | h<;>cases h
theorem sw{ι ι':Emb}{m N:Az}{w w':World}(hR:R ι m w)(h:Step m.length ι (Bv m) w ι' (Bv m++N) w'):Step m.length ι m w ι' (m++N) w':=by
 have hle:ι.le ι':=by
  refine ⟨fun b l hb=>?_,h.tx⟩
  have:b<m.length:=by
   rcases Nat.lt_or_ge b m.length with h' | h'
   ·exact h'
   ·rw [hR.dom b h'] at hb;cases hb
  rw [h.ext b this];exact hb
 have new:∀ {b own x},m.length≤b→(m++N)[b]?=some (.row own x)→(Bv m++N)[b]?=some (.row own x):=fun {b own x} hb hm=>by
  rw [List.getElem?_append_right hb] at hm
  rw [List.getElem?_append_right (by rw [Ce];exact hb),Ce];exact hm
 have old:∀ {b own x},b<m.length→(m++N)[b]?=some (.row own x)→m[b]?=some (.row own x):=fun {b own x} hb hm=>by rw [List.getElem?_append_left hb] at hm;exact hm
 have far:∀ {b l own x},m.length≤b→ι' b=some l→(m++N)[b]?=some (.row own x)→w.heap.size≤l.c:=fun {b l own x} hb hl hm=>by
  rcases h.news b l own x hb hl (new hb hm) with h3 | h3 | ⟨b0,l0,o0,x0,h4,h5,h6,_⟩
  ·exact h3
  ·exact (Jz h3).elim
  ·exact (Kd (by rw [Ce];exact h4) h6).elim
 refine ⟨⟨fun b hb=>h.r.dom b (by simpa [Ce] using hb),fun b l own x hb hm=>?_,fun b b' l l' own own' x x' hne hb hb' hm hm' hoo=>?_,fun c Φ hc=>⟨(h.r.stay c Φ (hc.to _)).1,fun b l x hb hm e=>?_⟩⟩,⟨h.trans.os,h.trans.tape,h.trans.output,h.trans.size,fun c hc _=>h.trans.keep c hc Jz,fun c hc=>?_⟩,h.tx,fun c o v hc=>(h.txn c o v hc).imp id (.imp id fun h=>(Jz h).elim),h.ext,by simp,fun b x hb hm=>by rw [List.getElem?_append_left hb];exact hm,fun b own x hb hm=>⟨x,old hb hm⟩,fun b l own x hb h1 h2=> .inl (far hb h1 h2)⟩
 ·rcases Nat.lt_or_ge b m.length with hs | hs
  ·rw [h.ext b hs] at hb
   exact (hR.rows b l own x hb (old hs hm)).heap (h.trans.keep l.c (hR.lt hb (old hs hm)) Jz) hle
  ·exact h.r.rows b l own x hb (new hs hm)
 ·rcases Nat.lt_or_ge b m.length with hs | hs<;>rcases Nat.lt_or_ge b' m.length with hs' | hs'
  ·rw [h.ext b hs] at hb
   rw [h.ext b' hs'] at hb'
   exact hR.inj b b' l l' own own' x x' hne hb hb' (old hs hm) (old hs' hm') hoo
  ·rw [h.ext b hs] at hb
   have h1:=hR.lt hb (old hs hm)
   have h2:=far hs' hb' hm'
   omega
  ·rw [h.ext b' hs'] at hb'
   have h1:=hR.lt hb' (old hs' hm')
   have h2:=far hs hb hm
   omega
  ·exact h.r.inj b b' l l' own own' x x' hne hb hb' (new hs hm) (new hs' hm') hoo
 ·rcases Nat.lt_or_ge b m.length with hs | hs
  ·rw [h.ext b hs] at hb
   rcases h.stayn (hc.to _) with h3 | h3 | h3
   ·exact (hR.stay c Φ (h3.to _)).2 b l x hb (old hs hm) e
   ·have:=hR.lt hb (old hs hm);omega
   ·exact Jz h3
  ·exact (h.r.stay c Φ (hc.to _)).2 b l x hb (new hs hm) e
 ·obtain ⟨b,l,x,hb,hm,rfl⟩:=hc
  rcases Nat.lt_or_ge b m.length with hs | hs
  ·rw [h.ext b hs] at hb
   exact .inr ⟨b,l,x,hb,old hs hm,rfl⟩
  ·exact .inl (far hs hb hm)
theorem ZD.agree(hl:LW ops n A W V N N0){ι0:Emb}{w0:World}{a0:Act}(hok:wm ops n a0.tmps.size)(hf:EZ ι0 (A 0) a0)(hR0:R ι0 (A 0).m w0){listed:Array Bool}{ι:Emb}{a:Act}{w:World}(h:ZD ops n A ι0 w0 a0 listed ι a w)
  {i:Nat} (hin:i<n) {o:Oper} (ho:ops[i]?=some o) (hb:∀j,XY ops i j=true→listed.getD j false=true) (hun:listed.getD i false=false):
  ∀t∈o.looksAt ops,((A i).t t).rel (ι.upto (A i).m.length) (a.tmps.getD t undef):=by
 intro t ht
 have hlow:ι0.le (ι.upto (A i).m.length):=by
  refine ⟨fun b l hbl=>?_,h.tx⟩
  have hb0:b<(A 0).m.length:=by
   rcases Nat.lt_or_ge b (A 0).m.length with h' | h'
   ·exact h'
   ·rw [hR0.dom b h'] at hbl;cases hbl
  have:=hl.len (Nat.zero_le i) (Nat.le_of_lt hin)
  unfold Emb.upto
  dsimp only
  rw [if_pos O_,h.low b hb0];exact hbl
 by_cases hex:∃j,j<n∧Bm ops j=some t
 ·obtain ⟨j,hj,hd⟩:=hex
  rcases hok.look i o t j hin ho ht hj hd with ⟨hji,hbij⟩ | ⟨hij,hbji⟩
  ·have hlj:=hb j hbij
   rw [hl.slot (i:=j+1) O_ (Nat.le_of_lt hin) (fun l h1 h2 hd'=>by have:=hok.uniq l j t O_ hj hd' hd;omega)]
   exact AV.rel_mono (rZ ι (hl.len (show j+1≤i by omega) (Nat.le_of_lt hin))) (h.hit j hj hlj t hd)
  ·have hnl:listed.getD j false≠true:=fun hlt=>by
    have hjs:j<ops.size:=by have:=hl.hn;omega
    have:=E5 h.head.closed hbji (Array.getElem?_eq_getElem hjs) (h.head.closed j _ (Array.getElem?_eq_getElem hjs) hlt)
    rw [hun] at this;cases this
   rw [h.miss t (fun j' hj' hl' hd'=>hnl (by rw [←hok.uniq j' j t hj' hj hd' hd];exact hl')),hl.slot (i:=0) (Nat.zero_le i) (Nat.le_of_lt hin) (fun l _ h2 hd'=>by have:=hok.uniq l j t O_ hj hd' hd;omega)]
   exact AV.rel_mono hlow (hf.rel t)
 ·have hno:∀j,j<n→Bm ops j≠some t:=fun j hj hd=>hex ⟨j,hj,hd⟩
  rw [h.miss t (fun j hj _=>hno j hj),hl.slot (i:=0) (Nat.zero_le i) (Nat.le_of_lt hin) (fun l _ h2=>hno l O_)]
  exact AV.rel_mono hlow (hf.rel t)
theorem ZD.run{P:Program}{Q':Exit→Act→World→Prop}(hl:LW ops n A W V N N0)(hW:∀i o,i<n→ops[i]?=some o→Ci ops (A i).t o=some (W i))
  (hV:∀i o,i<n→ops[i]?=some o→W i=true→R5 P (.op o.op (AF (A i).t) (Bv (A i).m)) (.val (V i) (Bv (A i).m++N i)))
  {ι0:Emb} {w0:World} {a0:Act} (hok:wm ops n a0.tmps.size) (hf:EZ ι0 (A 0) a0) (hR0:R ι0 (A 0).m w0) {listed:Array Bool} {ι:Emb} {a:Act} {w:World} (h:ZD ops n A ι0 w0 a0 listed ι a w)
  {i:Nat} (hi:i∈Region.ready .any ops listed) (hin:i<n) {K:Act→World→Prop} (hK:∀ι' a' w',ZD ops n A ι0 w0 a0 (listed.setIfInBounds i true) ι' a' w'→K a' w'):wpOp P ops Q' i K a w:=by
 have hr:=mem_ready.1 hi
 have hun:listed.getD i false=false:=getD_both hr.1
 obtain ⟨_,o,ho,hall⟩:=hr
 have hdeps:∀j,XY ops i j=true→listed.getD j false=true:=fun j hb=>E5 h.head.closed hb ho hall
 have hag:=h.agree hl hok hf hR0 hin ho hdeps hun
 have hwant:Region.wanted o (yielded ops a.tmps)=W i:=by
  refine U0 (ι:=ι.upto (A i).m.length) (fun d ⟨g,hg,hd⟩=>hag d ?_) (hW i o hin ho)
  obtain ⟨g1,g2⟩:=g
  simp [Oper.looksAt,hg]
  exact .inr (by simpa using hd)
 have hRi:=ACQ hl h.r h.cells (Nat.le_of_lt hin)
 have hopnd:∀x∈o.op.operands,(AF (A i).t x).rel (ι.upto (A i).m.length) (a.eval x):=by
  intro x hx
  cases x with
  |tmp t=>
   exact hag t (List.mem_append_left _ (List.mem_filterMap.2 ⟨.tmp t,by simpa using hx,rfl⟩))
  |const v=>exact AV.rel_of0 (Ru _ v)
  |global g=>trivial
  |func f=>rfl
 have hstep:=hl.step i o hin ho
 unfold wpOp
 simp only [ho]
 rw [hwant]
 by_cases hw:W i=true
 ·rw [hw,if_pos rfl]
  rw [if_pos hw] at hstep
  refine .inl ?_;have hgood:=hV i o hin ho hw o (ι.upto (A i).m.length) w a.eval rfl hRi hopnd
  refine hgood.wp rfl fun u w' ι1 hv hst=>?_
  have hlenA:(A (i+1)).m.length=(Bv (A i).m++N i).length:=by rw [hstep];simp [Ce]
  have hlo:(A i).m.length≤(A (i+1)).m.length:=(hl.mem1 hin).1
  have hhi:(A (i+1)).m.length≤(A n).m.length:=hl.len O_ (Nat.le_refl _)
  rw [Ce] at hst
  have hle1:∀b l,ι1 b=some l→b<(A (i+1)).m.length:=fun b l hb=>by
   rcases Nat.lt_or_ge b (A (i+1)).m.length with h' | h'
   ·exact h'
   ·rw [hst.r.dom b (by rw [←hlenA];exact h')] at hb;cases hb
  have segnone:∀b,(A i).m.length≤b→b<(A (i+1)).m.length→ι b=none:=fun b h1 h2=>by
   cases hb:ι b with
   |none=>rfl
   |some l=>
    rcases h.seg b l hb with h3 | ⟨j,h3,h4,h5,h6⟩
    ·have:=hl.len (Nat.zero_le i) (Nat.le_of_lt hin);omega
    ·have hij:j≠i:=fun e=>by rw [e,hun] at h4;cases h4
     rcases Nat.lt_or_ge j i with h7 | h7
     ·have:=hl.len (show j+1≤i by omega) (Nat.le_of_lt hin);omega
     ·have:=hl.len (show i+1≤j by omega) (Nat.le_of_lt h3);omega
  let ι2:Emb:=⟨fun b=>if (A i).m.length≤b∧b<(A (i+1)).m.length then ι1 b else ι b,ι1.tx⟩
  have i2in:∀b,(A i).m.length≤b→b<(A (i+1)).m.length→ι2 b=ι1 b:=fun b h1 h2=>if_pos ⟨h1,h2⟩
  have i2out:∀b,¬((A i).m.length≤b∧b<(A (i+1)).m.length)→ι2 b=ι b:=fun b hb=>if_neg hb
  have hle:ι.le ι2:=by
   refine ⟨fun b l hb=>?_,hst.tx⟩
   by_cases hs:(A i).m.length≤b∧b<(A (i+1)).m.length
   ·rw [segnone b hs.1 hs.2] at hb;cases hb
   ·rw [i2out b hs];exact hb
  have h12:ι1.le (ι2.upto (A (i+1)).m.length):=by
   refine ⟨fun b l hb=>?_,fun _ _ _ h=>h⟩
   have hlt:=hle1 b l hb
   unfold Emb.upto
   dsimp only
   rw [if_pos hlt]
   by_cases hs:(A i).m.length≤b
   ·rw [i2in b hs hlt];exact hb
   ·rw [i2out b O_]
    have:=hst.ext b O_
    rw [this] at hb
    exact (ZP _ _).f b l hb
  have newrow:∀ {b own x},(A i).m.length≤b→b<(A (i+1)).m.length→(A n).m[b]?=some (.row own x)→(Bv (A i).m++N i)[b]?=some (.row own x):=by
   intro b own x h1 h2 hm
   rw [hl.row (show i+1≤n by omega) (Nat.le_refl _) h2,hstep] at hm
   rw [List.getElem?_append_right O_] at hm
   rw [List.getElem?_append_right (by rw [Ce];omega),Ce];exact hm
  have hext:Below w.heap.size w w':=⟨hst.trans.os,hst.trans.tape,hst.trans.output,hst.trans.size,fun c hc=>hst.trans.keep c hc Jz⟩
  have hfr:∀b l own x,(A i).m.length≤b→b<(A (i+1)).m.length→ι2 b=some l→(A n).m[b]?=some (.row own x)→w.heap.size≤l.c:=by
   intro b l own x h1 h2 hb hm
   rw [i2in b h1 h2] at hb
   rcases hst.news b l own x h1 hb (newrow h1 h2 hm) with h3 | h3 | ⟨b0,l0,o0,x0,h4,h5,h6,_⟩
   ·exact h3
   ·exact (Jz h3).elim
   ·exact (Kd (by rw [Ce];exact h4) h6).elim
  have hR2:R ι2 (A n).m w':=by
   refine ⟨fun b hb=>?_,fun b l own x hb hm=>?_,fun b b' l l' own own' x x' hne hb hb' hm hm' hoo=>?_,fun c Φ hc=>⟨(hst.r.stay c Φ (hc.to _)).1,fun b l x hb hm e=>?_⟩⟩
   ·rw [i2out b O_];exact h.r.dom b hb
   ·by_cases hs:(A i).m.length≤b∧b<(A (i+1)).m.length
    ·rw [i2in b hs.1 hs.2] at hb
     exact ((hst.r.rows b l own x hb (newrow hs.1 hs.2 hm)).mono h12).mono (ZP _ _)
    ·rw [i2out b hs] at hb
     exact (h.r.rows b l own x hb hm).heap (hext.block l.c (h.r.lt hb hm)) hle
   ·by_cases hs:(A i).m.length≤b∧b<(A (i+1)).m.length<;>by_cases hs':(A i).m.length≤b'∧b'<(A (i+1)).m.length
    ·rw [i2in b hs.1 hs.2] at hb
     rw [i2in b' hs'.1 hs'.2] at hb'
     exact hst.r.inj b b' l l' own own' x x' hne hb hb' (newrow hs.1 hs.2 hm) (newrow hs'.1 hs'.2 hm') hoo
    ·have h1:=hfr b l own x hs.1 hs.2 hb hm
     rw [i2out b' hs'] at hb'
     have h2:=h.r.lt hb' hm'
     omega
    ·have h1:=hfr b' l' own' x' hs'.1 hs'.2 hb' hm'
     rw [i2out b hs] at hb
     have h2:=h.r.lt hb hm
     omega
    ·rw [i2out b hs] at hb
     rw [i2out b' hs'] at hb'
     exact h.r.inj b b' l l' own own' x x' hne hb hb' hm hm' hoo
   ·by_cases hs:(A i).m.length≤b∧b<(A (i+1)).m.length
    ·rw [i2in b hs.1 hs.2] at hb
     exact (hst.r.stay c Φ (hc.to _)).2 b l x hb (newrow hs.1 hs.2 hm) e
    ·rw [i2out b hs] at hb
     rcases hst.stayn (hc.to _) with h3 | h3 | h3
     ·exact (h.r.stay c Φ (h3.to _)).2 b l x hb hm e
     ·have:=h.r.lt hb hm;omega
     ·exact Jz h3
  refine hK ι2 _ _ (h.next hl hok hi hin ho hle i2out hR2 (fun d hd=>?_) hext hfr (fun b l own x h1 h2 hb hm=>?_) (fun c o v hc=>(hst.txn c o v hc).imp id fun h=>h.elim id fun h=>(Jz h).elim))
  ·rw [hstep]
   show (DX (A i).t o.dst (V i) d).rel _ _
   rw [hd]
   show (upd (A i).t d (V i) d).rel _ _
   rw [upd_eq]
   have:=AV.rel_mono h12 hv
   rw [hstep] at this
   exact this
  ·rw [i2in b h1 h2] at hb
   exact (hst.r.rows b l own x hb (newrow h1 h2 hm)).mono h12
 ·have hw':W i=false:=by cases hc:W i<;>simp_all
  rw [hw']
  rw [if_neg hw] at hstep
  have hm:(A (i+1)).m=(A i).m:=by rw [hstep]
  refine hK ι _ _ (h.next hl hok hi hin ho (.refl _) (fun _ _=>rfl) h.r (fun d hd=>?_) (Below.refl _ _) (fun b l own x h1 h2=>by rw [hm] at h2;omega) (fun b l own x h1 h2=>by rw [hm] at h2;omega) (fun _ _ _ h=> .inl h))
  rw [hstep]
  show (DX (A i).t o.dst wj d).rel _ _
  rw [hd]
  show (upd (A i).t d wj d).rel _ _
  rw [upd_eq]
  rfl
theorem ZD.any{P:Program}{Q':Exit→Act→World→Prop}{k:Nat}(hl:LW ops n A W V N N0)(hW:∀i o,i<n→ops[i]?=some o→Ci ops (A i).t o=some (W i))
  (hV:∀i o,i<n→ops[i]?=some o→W i=true→R5 P (.op o.op (AF (A i).t) (Bv (A i).m)) (.val (V i) (Bv (A i).m++N i)))
  {ι0:Emb} {w0:World} {a0:Act} (hall:Region.okAll ops n a0.tmps.size=true) (hf:EZ ι0 (A 0) a0) (hR0:R ι0 (A 0).m w0) (hk:k≤(A 0).m.length)
  (hQ:∀ι' a' w',EZ ι' (A n) a'→a'.defers=a0.defers→Step k ι0 (A 0).m w0 ι' (A n).m w'→wpList P ops Q' (ops.toList.drop n) a' w'):
  ∀(f:Nat) (un:List Nat) (listed:Array Bool) (ι:Emb) (a:Act) (w:World),un.length=f→un.Nodup→(∀j,j∈un↔j<n∧listed.getD j false=false)→ZD ops n A ι0 w0 a0 listed ι a w→
   wpAny P .any ops Q' (f+(ops.size-n)) listed a w:=by
 simp only [Region.okAll,Bool.and_eq_true,Bool.or_eq_true,decide_eq_true_eq] at hall
 obtain ⟨⟨⟨⟨hn,hok0⟩,htail⟩,hseq⟩,hback⟩:=hall
 have hok:=Region.okX_spec hok0
 intro f
 induction f with
 |zero=>
  intro un listed ι a w hlu _ hun h
  obtain rfl:un=[]:=List.length_eq_zero_iff.1 hlu
  have hdone:∀j,j<n→listed.getD j false=true:=fun j hj=>by
   cases hb:listed.getD j false with
   |true=>rfl
   |false=>have:=(hun j).2 ⟨hj,hb⟩;simp at this
  have hlisted:listed=NR n ops.size:=by
   apply Array.ext_getElem?
   intro j
   by_cases hj:j<ops.size
   ·have hjl:j<listed.size:=by rw [h.head.size];exact hj
    have e:(NR n ops.size)[j]?=some (decide (j<n)):=by simp [NR,hj]
    rw [e,Array.getElem?_eq_getElem hjl]
    congr 1
    by_cases hjn:j<n
    ·have:=hdone j hjn;simpa [hjl,hjn] using this
    ·have:=h.head.tail j O_ hj;simpa [hjl,hjn] using this
   ·rw [Array.getElem?_eq_none (by rw [h.head.size];omega),Array.getElem?_eq_none (by simp [NR];omega)]
  have h0n:=hl.len (Nat.zero_le n) (Nat.le_refl n)
  have hlow:ι0.le ι:=by
   refine ⟨fun b l hbl=>?_,h.tx⟩
   have hb0:b<(A 0).m.length:=by
    rcases Nat.lt_or_ge b (A 0).m.length with h' | h'
    ·exact h'
    ·rw [hR0.dom b h'] at hbl;cases hbl
   rw [h.low b hb0];exact hbl
  have hnn:∀i,(A i).n=N0∨i=0∨n<i:=fun i=>by
   rcases Nat.eq_zero_or_pos i with h0 | h0
   ·exact .inr (.inl h0)
   ·rcases Nat.lt_or_ge n i with h1 | h1
    ·exact .inr (.inr h1)
    ·obtain ⟨o,ho⟩:=hl.at (show i-1<n by omega)
     have:=hl.step (i-1) o O_ ho
     rw [show i-1+1=i by omega] at this
     rw [this];left;split<;>rfl
  have hq:=hQ ι a w ⟨?_,fun t=>?_⟩ h.defers ⟨h.r,⟨h.ext.os,h.ext.tape,h.ext.output,h.ext.size,fun c hc _=>h.ext.block c hc,fun c hc=>?_⟩,h.tx,fun c o v hc=>(h.txn c o v hc).imp id .inl,fun b hb=>h.low b O_,by omega,fun b x hb hm=>?_,fun b own x hb hm=>?_,fun b l own x hb h1 h2=>?_⟩
  ·have hdl:(ops.toList.drop n).length=ops.size-n:=by simp
   have:=wpAny_of_seq (md:= .any) (Q':=Q') (ops.toList.drop n) n listed a w (fun j=>by simp [List.getElem?_drop]) (by rw [hdl,hlisted];exact hseq) hq
   rw [hdl] at this
   rw [Nat.zero_add]
   exact this
  ·rw [h.size,hf.size,hl.h0]
   rcases hnn n with h0 | h0 | h0
   ·exact h0.symm
   ·rw [h0];exact hl.h0.symm
   ·omega
  ·by_cases hex:∃j,j<n∧Bm ops j=some t
   ·obtain ⟨j,hj,hd⟩:=hex
    rw [hl.slot (i:=j+1) O_ (Nat.le_refl n) (fun l h1 h2 hd'=>by have:=hok.uniq l j t O_ hj hd' hd;omega)]
    exact AV.rel_mono (ZP _ _) (h.hit j hj (hdone j hj) t hd)
   ·have hno:∀j,j<n→Bm ops j≠some t:=fun j hj hd=>hex ⟨j,hj,hd⟩
    rw [h.miss t (fun j hj _=>hno j hj),hl.slot (i:=0) (Nat.zero_le n) (Nat.le_refl n) (fun l _ h2=>hno l O_)]
    exact AV.rel_mono hlow (hf.rel t)
  ·obtain ⟨b,l,x,h1,h2,rfl⟩:=hc
   rcases Nat.lt_or_ge b (A 0).m.length with h3 | h3
   ·rw [h.low b h3] at h1
    rw [hl.row (Nat.zero_le n) (Nat.le_refl n) h3] at h2
    exact .inr ⟨b,l,x,h1,h2,rfl⟩
   ·exact .inl (h.fresh b l true x h3 h1 h2)
  ·rw [hl.row (Nat.zero_le n) (Nat.le_refl n) O_];exact hm
  ·rw [hl.row (Nat.zero_le n) (Nat.le_refl n) O_] at hm;exact ⟨x,hm⟩
  ·rcases Nat.lt_or_ge b (A 0).m.length with h3 | h3
   ·rw [h.low b h3] at h1
    rw [hl.row (Nat.zero_le n) (Nat.le_refl n) h3] at h2
    exact .inr (.inr ⟨b,l,own,x,hb,h1,h2,rfl⟩)
   ·exact .inl (h.fresh b l own x h3 h1 h2)
 |succ f ih=>
  intro un listed ι a w hlu hnd hun h
  obtain ⟨i0,hi0⟩:∃i0,i0∈un:=by cases un with | nil=>simp at hlu | cons x _=>exact ⟨x,List.mem_cons_self⟩
  have least:∀m i,i≤m→i∈un→ ∃j,j∈Region.ready .any ops listed:=by
   intro m
   induction m with
   |zero=>
    intro i him hiu
    obtain ⟨hin,hb⟩:=(hun i).1 hiu
    have his:i<listed.size:=by rw [h.head.size];omega
    refine ⟨i,mem_ready.2 ⟨getD_in his hb,ops[i]'O_,Array.getElem?_eq_getElem O_,fun e he hbind=>?_⟩⟩
    have:=List.all_eq_true.1 hback i (List.mem_range.2 O_)
    rw [Array.getElem?_eq_getElem (show i<ops.size by omega)] at this
    have:=Array.all_eq_true_iff_forall_mem.1 this e he
    simp only [hbind,Bool.not_true,Bool.false_or,decide_eq_true_eq] at this
    omega
   |succ m ihm=>
    intro i him hiu
    obtain ⟨hin,hb⟩:=(hun i).1 hiu
    have his:i<listed.size:=by rw [h.head.size];omega
    by_cases hall:∀e∈(ops[i]'O_).after,Region.binds .any e=true→listed.getD e.on false=true
    ·exact ⟨i,mem_ready.2 ⟨getD_in his hb,_,Array.getElem?_eq_getElem O_,hall⟩⟩
    ·have:∃e∈(ops[i]'O_).after,Region.binds .any e=true∧listed.getD e.on false=false:=by
      apply Classical.byContradiction
      intro hc
      apply hall
      intro e he hbind
      cases hlb:listed.getD e.on false with
      |true=>rfl
      |false=>exact absurd ⟨e,he,hbind,hlb⟩ hc
     obtain ⟨e,he,hbind,hlb⟩:=this
     have hlt:=List.all_eq_true.1 hback i (List.mem_range.2 O_)
     rw [Array.getElem?_eq_getElem (show i<ops.size by omega)] at hlt
     have hlt:=Array.all_eq_true_iff_forall_mem.1 hlt e he
     simp only [hbind,Bool.not_true,Bool.false_or,decide_eq_true_eq] at hlt
     exact ihm e.on O_ ((hun e.on).2 ⟨by omega,hlb⟩)
  rw [show f+1+(ops.size-n)=(f+(ops.size-n))+1 by omega]
  refine ⟨fun hnil=>?_,fun i hi=>?_⟩
  ·obtain ⟨j,hj⟩:=least i0 i0 (Nat.le_refl _) hi0
   rw [hnil] at hj;cases hj
  ·have hun0:=(mem_ready.1 hi).1
   have hin:i<n:=by
    rcases Nat.lt_or_ge i n with hlt | hge
    ·exact hlt
    ·obtain ⟨_,o,ho,_⟩:=mem_ready.1 hi
     have his:i<ops.size:=(Array.getElem?_eq_some_iff.1 ho).1
     rcases htail with he | ⟨hs,hc⟩
     ·omega
     ·obtain ⟨hi0n,hb0⟩:=(hun i0).1 hi0
      exact absurd hi (tail_waits hs hc O_ h.head _ i0 rfl hi0n (getD_in (by rw [h.head.size];omega) hb0) i hge)
   refine h.run hl hW hV hok hf hR0 hi hin fun ι' a' w' h'=>?_
   have himem:i∈un:=(hun i).2 ⟨hin,getD_both hun0⟩
   refine ih (un.erase i) _ ι' a' w' (by rw [List.length_erase_of_mem himem,hlu];rfl) (hnd.erase i) (fun j=>?_) h'
   rw [hnd.mem_erase_iff,hun j]
   by_cases hji:j=i
   ·subst hji
    have his:j<listed.size:=by rw [h.head.size];omega
    simp [his]
   ·rw [getD_set_ne false (fun e=>hji e.symm)]
    simp [hji]
theorem nB {P : Program} {Q : Exit → Act → World → Prop} {k : Nat} (hl : LW ops n A W V N (A 0).n) (hW : ∀ i o, i < n → ops[i]? = some o → Ci ops (A i).t o = some (W i))
    (hV : ∀ i o, i < n → ops[i]? = some o → W i = true → R5 P (.op o.op (AF (A i).t) (Bv (A i).m)) (.val (V i) (Bv (A i).m ++ N i)))
    (hall : Region.okAll ops n (A 0).n = true) {ι : Emb} {w : World} {a : Act} (hf : EZ ι (A 0) a) (hR : R ι (A 0).m w) (hk : k ≤ (A 0).m.length)
    (hQ : ∀ ι' a' w', EZ ι' (A n) a' → a'.defers = a.defers → Step k ι (A 0).m w ι' (A n).m w' → wpList P ops Q (ops.toList.drop n) a' w') : wpAny P .any ops Q ops.size (Array.replicate ops.size false) a w.drew := by
  have hn := hl.hn
  have hRd : R ι (A 0).m w.drew := ⟨hR.dom, hR.rows, hR.inj, hR.stay⟩
  have h0n := hl.len (Nat.zero_le n) (Nat.le_refl n)
  have hinv : ZD ops n A ι w.drew a (Array.replicate ops.size false) ι a w.drew := by
    refine ⟨fun _ _ => rfl, fun b l hb => .inl ?_, ⟨fun b hb => hR.dom b O_, fun b l own x hb hm => ?_, fun b b' l l' o o' x x' hne hb hb' hm hm' ho => ?_, fun c Φ hc => ⟨(hRd.stay c Φ (hc.to _)).1, fun b l x hb hm e => ?_⟩⟩, fun j _ hl => (by rw [getD_replicate_false] at hl; cases hl), fun _ _ => rfl, rfl, rfl,
      ⟨by simp, fun j oj _ hl => (by rw [getD_replicate_false] at hl; cases hl), fun t _ ht => getD_in (by simpa using ht) (getD_replicate_false _ _)⟩, Below.refl _ _, fun b l own x hb h1 h2 => ?_, fun i b l own x hi hb h1 h2 => ?_, fun _ _ _ h => h, fun _ _ _ h => .inl h⟩
    all_goals
      have inlow : ∀ b l, ι b = some l → b < (A 0).m.length := fun b l hb => by
        rcases Nat.lt_or_ge b (A 0).m.length with h' | h'
        · exact h'
        · rw [hR.dom b h'] at hb; cases hb
    · exact inlow b l hb
    · rw [hl.row (Nat.zero_le n) (Nat.le_refl n) (inlow b l hb)] at hm
      exact hRd.rows b l own x hb hm
    · rw [hl.row (Nat.zero_le n) (Nat.le_refl n) (inlow b l hb)] at hm
      rw [hl.row (Nat.zero_le n) (Nat.le_refl n) (inlow b' l' hb')] at hm'
      exact hRd.inj b b' l l' o o' x x' hne hb hb' hm hm' ho
    · rw [hl.row (Nat.zero_le n) (Nat.le_refl n) (inlow b l hb)] at hm
      exact (hRd.stay c Φ (hc.to _)).2 b l x hb hm e
    · have := inlow b l h1; omega
    · rw [hl.row (Nat.zero_le n) (Nat.le_refl n) (inlow b l h1)] at h2
      refine (hRd.rows b l own x h1 h2).mono ⟨fun b l hb => ?_, fun _ _ _ h => h⟩
      have h3 := inlow b l hb
      have h4 := hl.len (Nat.zero_le i) hi
      unfold Emb.upto
      dsimp only
      rw [if_pos O_]; exact hb
  have := ZD.any (Q' := Q) hl hW hV (by rw [hf.size]; exact hall) hf hRd hk (fun ι' a' w' h1 h2 h3 => hQ ι' a' w' h1 h2 ⟨h3.r, ⟨h3.trans.os, h3.trans.tape, h3.trans.output, h3.trans.size, h3.trans.keep, h3.trans.fresh⟩, h3.tx, h3.txn, h3.ext, h3.len, h3.ro, h3.old, h3.news⟩) n (List.range n) _ _ _ _ (by simp) List.nodup_range (fun j => by rw [getD_replicate_false]; simp) hinv
  have e : n + (ops.size - n) = ops.size := by omega
  rw [e] at this
  exact this
theorem pt {P : Program} {Q : Exit → Act → World → Prop} {id k : Nat} (hm : P.follows .mixedOrders = true) (hl : LW ops n A W V N (A 0).n) (hW : ∀ i o, i < n → ops[i]? = some o → Ci ops (A i).t o = some (W i))
    (hV : ∀ i o, i < n → ops[i]? = some o → W i = true → R5 P (.op o.op (AF (A i).t) (Bv (A i).m)) (.val (V i) (Bv (A i).m ++ N i)))
    (hall : Region.okAll ops n (A 0).n = true) {ι : Emb} {w : World} {a : Act} (hf : EZ ι (A 0) a) (hR : R ι (A 0).m w) (hk : k ≤ (A 0).m.length)
    (hQ : ∀ ι' a' w', EZ ι' (A n) a' → a'.defers = a.defers → Step k ι (A 0).m w ι' (A n).m w' → wpList P ops Q (ops.toList.drop n) a' w') : (Code.region id ops true).wp P Q a w := wp_region_any hm (nB hl hW hV hall hf hR hk hQ)
theorem pu{P:Program}{Q:Exit→Act→World→Prop}{id k i0:Nat}(hm:P.follows .mixedOrders=true)(hc:PR ops n i0=true)(hl:LW (Bk ops n i0) n A W V N (A 0).n)(hW:∀i o,i<n→(Bk ops n i0)[i]?=some o→Ci (Bk ops n i0) (A i).t o=some (W i))
  (hV:∀i o,i<n→(Bk ops n i0)[i]?=some o→W i=true→R5 P (.op o.op (AF (A i).t) (Bv (A i).m)) (.val (V i) (Bv (A i).m++N i)))
  (hall:Region.okAll (Bk ops n i0) n (A 0).n=true) {ι:Emb} {w:World} {a:Act} (hf:EZ ι (A 0) a) (hR:R ι (A 0).m w) (hk:k≤(A 0).m.length)
  (hQ:∀ι' a' w',EZ ι' (A n) a'→a'.defers=a.defers→Step k ι (A 0).m w ι' (A n).m w'→wpList P (Bk ops n i0) (nrm Q) ((Bk ops n i0).toList.drop n) a' w'):(Code.region id ops true).wp P Q a w:=by
 obtain ⟨oi,on,hlo⟩:=aF hc
 have h1:=nB hl hW hV hall hf hR hk hQ
 rw [ti] at h1
 have h2:=zD hlo _ _ _ _ (by simp) h1
 exact wp_mono (wp_region_any hm h2) fun e a w h=>by obtain ⟨rfl,h⟩:=h;exact h
end
structure OkS(ops:Array Oper)(size:Nat):Prop where
 ok:wm ops ops.size size
 guard:∀(i:Nat) (o:Oper),ops[i]?=some o→o.guard=none
 dst:∀(i:Nat) (o:Oper),ops[i]?=some o→Bf o=true→o.dst=none
 chain:∀(i j:Nat) (o o':Oper),i<j→ops[i]?=some o→ops[j]?=some o'→Bf o=true→Bf o'=true→XY ops j i=true
 back:∀(i:Nat) (o:Oper) (e:Edge),ops[i]?=some o→e∈o.after→Region.binds .any e=true→e.on<i
theorem Region.okStores_spec{ops:Array Oper}{size:Nat}(h:Region.okStores ops size=true):OkS ops size:=by
 simp only [Region.okStores,Bool.and_eq_true,List.all_eq_true,List.mem_range] at h
 obtain ⟨h1,h2⟩:=h
 have lt:∀ {i:Nat} {o:Oper},ops[i]?=some o→i<ops.size:=fun ho=>(Array.getElem?_eq_some_iff.1 ho).1
 refine ⟨Region.okX_spec h1,fun i o ho=>?_,fun i o ho hs=>?_,fun i j o o' hij ho ho' hs hs'=>?_,fun i o e ho he hb=>?_⟩
 ·have:=h2 i (lt ho)
  rw [ho] at this
  simp only [Bool.and_eq_true,Option.isNone_iff_eq_none] at this
  exact this.1.1
 ·have:=h2 i (lt ho)
  rw [ho] at this
  simp only [Bool.and_eq_true,Bool.or_eq_true,hs,Bool.not_true,Bool.false_eq_true,false_or,Option.isNone_iff_eq_none] at this
  exact this.1.2.1
 ·have:=h2 i (lt ho)
  rw [ho] at this
  simp only [Bool.and_eq_true,Bool.or_eq_true,hs,Bool.not_true,Bool.false_eq_true,false_or,List.all_eq_true,List.mem_range] at this
  have:=this.1.2.2 j (lt ho')
  rw [ho'] at this
  simpa [hs',hij] using this
 ·have:=h2 i (lt ho)
  rw [ho] at this
  simp only [Bool.and_eq_true] at this
  have:=Array.all_eq_true_iff_forall_mem.1 this.2 e he
  simpa [hb] using this
structure IT(P:Program)(ops:Array Oper)(A:Nat→St)(V:Nat→AV)(N0:Nat):Prop where
 h0:(A 0).n=N0
 pure:∀(i:Nat) (o:Oper),ops[i]?=some o→Bf o=false→(AS P (AF (A i).t) (Ie (A 0).m.length) o.op=some (V i)∨(early ops i=true∧R5 P (.op o.op (AF (A i).t) (A 0).m) (.val (V i) (A 0).m))∨ ∃Mk:Az,(∀c,c≤ops.size→ ∀(ι:Emb) (w:World),R ι (A c).m w→R ι Mk w)∧AS P (AF (A i).t) Mk o.op=some (V i))∧A (i+1)=⟨N0,DX (A i).t o.dst (V i),(A i).m⟩
 store:∀(i:Nat) (o:Oper),ops[i]?=some o→Bf o=true→ ∃v m',DK P (AF (A i).t) (A i).m o.op=some (v,m')∧m'.length=(A i).m.length∧A (i+1)=⟨N0,(A i).t,m'⟩
section
variable {P:Program} {ops:Array Oper} {A:Nat→St} {V:Nat→AV} {N0:Nat}
theorem IT.tmp1(h:IT P ops A V N0){i:Nat}(hi:i<ops.size){t:Nat}(ht:Bm ops i≠some t):(A (i+1)).t t=(A i).t t:=by
 have ho:ops[i]?=some (ops[i]'hi):=Array.getElem?_eq_getElem hi
 have hd:Bm ops i=(ops[i]'hi).dst:=by simp [Bm,ho]
 rw [hd] at ht
 cases hs:Bf (ops[i]'hi) with
 |true=>obtain ⟨v,m',_,_,e⟩:=h.store i _ ho hs;rw [e]
 |false=>
  obtain ⟨_,e⟩:=h.pure i _ ho hs
  rw [e]
  show DX (A i).t (ops[i]'hi).dst (V i) t=_
  cases hdd:(ops[i]'hi).dst with
  |none=>rfl
  |some d=>rw [hdd] at ht;exact upd_ne _ _ (fun e=>ht (by rw [e]))
theorem IT.len1(h:IT P ops A V N0){i:Nat}(hi:i<ops.size):(A (i+1)).m.length=(A i).m.length:=by
 have ho:ops[i]?=some (ops[i]'hi):=Array.getElem?_eq_getElem hi
 cases hs:Bf (ops[i]'hi) with
 |true=>obtain ⟨v,m',_,hl,e⟩:=h.store i _ ho hs;rw [e];exact hl
 |false=>obtain ⟨_,e⟩:=h.pure i _ ho hs;rw [e]
theorem IT.len(h:IT P ops A V N0):∀i,i≤ops.size→(A i).m.length=(A 0).m.length
 |0,_=>rfl
 |i+1,hi=>by rw [h.len1 O_,IT.len h i O_]
theorem IT.slot(h:IT P ops A V N0){i t:Nat}:∀d,i+d≤ops.size→(∀j,i≤j→j<i+d→Bm ops j≠some t)→(A (i+d)).t t=(A i).t t
 |0,_,_=>rfl
 |d+1,hd,hno=>by
  rw [show i+(d+1)=i+d+1 by omega,h.tmp1 O_ (hno _ O_ O_),IT.slot h d O_ fun j h1 h2=>hno j h1 O_]
theorem IT.slot'(h:IT P ops A V N0){i j t:Nat}(hij:i≤j)(hj:j≤ops.size)(hno:∀l,i≤l→l<j→Bm ops l≠some t):(A j).t t=(A i).t t:=by
 have:=h.slot (i:=i) (t:=t) (j-i) O_ (fun l h1 h2=>hno l h1 O_)
 rwa [show i+(j-i)=j by omega] at this
theorem IT.mem(h:IT P ops A V N0){i:Nat}:∀d,i+d≤ops.size→(∀j o,i≤j→j<i+d→ops[j]?=some o→Bf o=false)→(A (i+d)).m=(A i).m
 |0,_,_=>rfl
 |d+1,hd,hno=>by
  have hlt:i+d<ops.size:=by omega
  have ho:ops[i+d]?=some (ops[i+d]'hlt):=Array.getElem?_eq_getElem hlt
  obtain ⟨_,e⟩:=h.pure (i+d) _ ho (hno _ _ O_ O_ ho)
  rw [show i+(d+1)=i+d+1 by omega,e]
  exact IT.mem h d O_ fun j o h1 h2=>hno j o h1 O_
theorem IT.mem'(h:IT P ops A V N0){i j:Nat}(hij:i≤j)(hj:j≤ops.size)(hno:∀l o,i≤l→l<j→ops[l]?=some o→Bf o=false):(A j).m=(A i).m:=by
 have:=h.mem (i:=i) (j-i) O_ (fun l o h1 h2=>hno l o h1 O_)
 rwa [show i+(j-i)=j by omega] at this
structure Yv(ops:Array Oper)(A:Nat→St)(k:Nat)(ι0:Emb)(w0:World)(a0:Act)(listed:Array Bool)(ι:Emb)(a:Act)(w:World):Prop where
 cut:∃j,j≤ops.size∧(∀i o,ops[i]?=some o→Bf o=true→(listed.getD i false=true↔i<j))∧Step k ι0 (A 0).m w0 ι (A j).m w
 le:ι0.le ι
 hit:∀j,j<ops.size→listed.getD j false=true→ ∀d,Bm ops j=some d→((A (j+1)).t d).rel ι (a.tmps.getD d undef)
 miss:∀t,(∀j,j<ops.size→listed.getD j false=true→Bm ops j≠some t)→a.tmps.getD t undef=a0.tmps.getD t undef
 size:a.tmps.size=a0.tmps.size
 defers:a.defers=a0.defers
 head:HeadInv .any ops ops.size listed
theorem Ml(a:Act){d:Option Tmp}{t:Nat}(u:Value)(h:d≠some t):(a.put d u).tmps.getD t undef=a.tmps.getD t undef:=by
 cases d with
 |none=>rfl
 |some d=>
  simp only [Act.put,Array.getD_eq_getD_getElem?]
  rw [Array.getElem?_setIfInBounds_ne (fun e=>h (by rw [e]))]
theorem Yv.agree(hl:IT P ops A V N0){k:Nat}{ι0:Emb}{w0:World}{a0:Act}(hok:wm ops ops.size a0.tmps.size)(hf:EZ ι0 (A 0) a0){listed:Array Bool}{ι:Emb}{a:Act}{w:World}(h:Yv ops A k ι0 w0 a0 listed ι a w)
  {i:Nat} (hin:i<ops.size) {o:Oper} (ho:ops[i]?=some o) (hb:∀j,XY ops i j=true→listed.getD j false=true) (hun:listed.getD i false=false):
  ∀t∈o.looksAt ops,((A i).t t).rel ι (a.tmps.getD t undef):=by
 intro t ht
 by_cases hex:∃j,j<ops.size∧Bm ops j=some t
 ·obtain ⟨j,hj,hd⟩:=hex
  rcases hok.look i o t j hin ho ht hj hd with ⟨hji,hbij⟩ | ⟨hij,hbji⟩
  ·have hlj:=hb j hbij
   rw [hl.slot' (i:=j+1) O_ (Nat.le_of_lt hin) (fun l h1 h2 hd'=>by have:=hok.uniq l j t O_ hj hd' hd;omega)]
   exact h.hit j hj hlj t hd
  ·have hnl:listed.getD j false≠true:=fun hlt=>by
    have:=E5 h.head.closed hbji (Array.getElem?_eq_getElem hj) (h.head.closed j _ (Array.getElem?_eq_getElem hj) hlt)
    rw [hun] at this;cases this
   rw [h.miss t (fun j' hj' hl' hd'=>hnl (by rw [←hok.uniq j' j t hj' hj hd' hd];exact hl')),hl.slot' (i:=0) (Nat.zero_le i) (Nat.le_of_lt hin) (fun l _ h2 hd'=>by have:=hok.uniq l j t O_ hj hd' hd;omega)]
   exact AV.rel_mono h.le (hf.rel t)
 ·have hno:∀j,j<ops.size→Bm ops j≠some t:=fun j hj hd=>hex ⟨j,hj,hd⟩
  rw [h.miss t (fun j hj _=>hno j hj),hl.slot' (i:=0) (Nat.zero_le i) (Nat.le_of_lt hin) (fun l _ h2=>hno l O_)]
  exact AV.rel_mono h.le (hf.rel t)
theorem Yv.next{k:Nat}{ι0:Emb}{w0:World}{a0:Act}(hok:wm ops ops.size a0.tmps.size){listed:Array Bool}{ι ι':Emb}{a:Act}{w:World}(h:Yv ops A k ι0 w0 a0 listed ι a w)(hle:ι.le ι')
  {i:Nat} (hi:i∈Region.ready .any ops listed) {o:Oper} (ho:ops[i]?=some o) {u:Value} {w':World}
  (hcut:∃j,j≤ops.size∧(∀i' o,ops[i']?=some o→Bf o=true→((listed.setIfInBounds i true).getD i' false=true↔i'<j))∧Step k ι0 (A 0).m w0 ι' (A j).m w')
  (hu:∀d,o.dst=some d→((A (i+1)).t d).rel ι' u):Yv ops A k ι0 w0 a0 (listed.setIfInBounds i true) ι' (a.put o.dst u) w':=by
 have hin:i<ops.size:=(Array.getElem?_eq_some_iff.1 ho).1
 have his:i<listed.size:=by rw [h.head.size];exact hin
 have hd:Bm ops i=o.dst:=by simp [Bm,ho]
 have hset:∀j,(listed.setIfInBounds i true).getD j false=true→j=i∨listed.getD j false=true:=fun j hj=>by
  by_cases hji:i=j
  ·exact .inl hji.symm
  ·rw [getD_set_ne false hji] at hj;exact .inr hj
 have hseti:(listed.setIfInBounds i true).getD i false=true:=by simp [his]
 refine ⟨hcut,⟨fun b l hb=>hle.f b l (h.le.f b l hb),fun c o v hc=>hle.tx c o v (h.le.tx c o v hc)⟩,fun j hj hlj d hdj=>?_,fun t ht=>?_,by rw [show (a.put o.dst u).tmps.size=a.tmps.size by cases o.dst<;>simp [Act.put]];exact h.size,by rw [show (a.put o.dst u).defers=a.defers by cases o.dst<;>rfl];exact h.defers,h.head.set hi hin⟩
 ·by_cases hji:j=i
  ·subst hji
   rw [hd] at hdj
   rw [hdj,SB a d d u (by rw [h.size];exact hok.lt j d hj (by rw [hd];exact hdj)),if_pos rfl]
   exact hu d hdj
  ·have hlj':=(hset j hlj).resolve_left hji
   have hne:o.dst≠some d:=fun e=>hji (hok.uniq j i d hj hin hdj (by rw [hd];exact e))
   rw [Ml a u hne]
   exact AV.rel_mono hle (h.hit j hj hlj' d hdj)
 ·have h1:o.dst≠some t:=by rw [←hd];exact ht i hin hseti
  rw [Ml a u h1]
  exact h.miss t fun j hj hlj=>ht j hj (getD_set_true hlj)
theorem AFA{ι:Emb}{n:Nat}{w:World}(h:∀b,n≤b→ι b=none)(ht:∀c Φ,LZ ι c Φ→ ∃ob,w.heap[c]?=some ob∧Φ ob):R ι (Ie n) w:=by
 have no:∀(b:Nat) (own:Bool) (x:Arr),(Ie n)[b]?=some (.row own x)→False:=fun b own x hb=>by
  unfold Ie at hb
  rw [List.getElem?_replicate] at hb
  split at hb<;>cases hb
 exact ⟨fun b hb=>h b (by simpa [Ie] using hb),fun b l own x _ hm=>(no _ _ _ hm).elim,fun b b' l l' own own' x x' _ _ _ hm _ _=>(no _ _ _ hm).elim,fun c Φ hc=>⟨ht c Φ hc,fun b l x _ hm _=>(no _ _ _ hm).elim⟩⟩
theorem Yv.run{Q':Exit→Act→World→Prop}(hl:IT P ops A V N0){k:Nat}{ι0:Emb}{w0:World}{a0:Act}(hS:OkS ops a0.tmps.size)(hf:EZ ι0 (A 0) a0)(_hR0:R ι0 (A 0).m w0)(hk:k≤(A 0).m.length){listed:Array Bool}{ι:Emb}{a:Act}{w:World}(h:Yv ops A k ι0 w0 a0 listed ι a w)
  {i:Nat} (hi:i∈Region.ready .any ops listed) {K:Act→World→Prop} (hK:∀ι' a' w',Yv ops A k ι0 w0 a0 (listed.setIfInBounds i true) ι' a' w'→K a' w'):wpOp P ops Q' i K a w:=by
 have hok:=hS.ok
 have hr:=mem_ready.1 hi
 have hun:listed.getD i false=false:=getD_both hr.1
 obtain ⟨_,o,ho,hall⟩:=hr
 have hin:i<ops.size:=(Array.getElem?_eq_some_iff.1 ho).1
 have hdeps:∀j,XY ops i j=true→listed.getD j false=true:=fun j hb=>E5 h.head.closed hb ho hall
 have hag:=h.agree hl hok hf hin ho hdeps hun
 have hopnd:∀x∈o.op.operands,(AF (A i).t x).rel ι (a.eval x):=by
  intro x hx
  cases x with
  |tmp t=>exact hag t (List.mem_append_left _ (List.mem_filterMap.2 ⟨.tmp t,by simpa using hx,rfl⟩))
  |const v=>exact AV.rel_of0 (Ru _ v)
  |global g=>trivial
  |func f=>rfl
 obtain ⟨c,hc,hcl,hst⟩:=h.cut
 have his:i<listed.size:=by rw [h.head.size];exact hin
 unfold wpOp
 simp only [ho]
 rw [show Region.wanted o (yielded ops a.tmps)=true by unfold Region.wanted;rw [hS.guard i o ho],if_pos rfl]
 refine .inl ?_
 cases hs:Bf o with
 |false=>
  obtain ⟨hv,hstep⟩:=hl.pure i o ho hs
  have hv:(∃Mk:Az,R ι Mk w∧AS P (AF (A i).t) Mk o.op=some (V i))∨(early ops i=true∧R5 P (.op o.op (AF (A i).t) (A 0).m) (.val (V i) (A 0).m)):=by
   rcases hv with hv | hv | ⟨Mk,h1,h2⟩
   ·exact .inl ⟨_,AFA (fun b hb=>hst.r.dom b (by rw [hl.len c hc];exact hb)) (fun c Φ hc=>(hst.r.stay c Φ (hc.to _)).1),hv⟩
   ·exact .inr hv
   ·exact .inl ⟨Mk,h1 c hc _ _ hst.r,h2⟩
  rcases hv with ⟨Mk,hRk,hv⟩ | ⟨he,hsound⟩
  rotate_left
  ·have hno:∀l o',l<c→ops[l]?=some o'→Bf o'=false:=fun l o' h2 ho'=>by
    cases hs':Bf o' with
    |false=>rfl
    |true=>
     have hll:=(hcl l o' ho' hs').2 h2
     have hln:l<ops.size:=(Array.getElem?_eq_some_iff.1 ho').1
     simp only [early,List.all_eq_true,List.mem_range] at he
     have hb:=he l hln
     simp only [ho',hs',Bool.not_true,Bool.false_or] at hb
     have:=E5 h.head.closed hb ho' (h.head.closed l o' ho' hll)
     rw [hun] at this;cases this
   have hm:(A c).m=(A 0).m:=hl.mem' (Nat.zero_le c) hc fun l o' _ h2 ho'=>hno l o' h2 ho'
   have hst':=hst
   rw [hm] at hst'
   refine (hsound o ι w a.eval rfl hst'.r hopnd).wp rfl fun u w' ι1 hv hst2=>?_
   have hst3:Step k ι0 (A 0).m w0 ι1 (A c).m w':=by rw [hm];exact hst'.comp (hst2.low hk)
   refine hK ι1 _ _ (h.next hok (hst2.le hst'.r) hi ho ⟨c,hc,fun i' o' ho' hs'=>?_,hst3⟩ fun d hd=>?_)
   ·have hne:i≠i':=fun e=>by subst e;rw [ho] at ho';cases ho';rw [hs] at hs';cases hs'
    rw [getD_set_ne false hne]
    exact hcl i' o' ho' hs'
   ·rw [hstep]
    show (DX (A i).t o.dst (V i) d).rel _ _
    rw [hd]
    show (upd (A i).t d (V i) d).rel _ _
    rw [upd_eq]
    exact hv
  unfold Oper.wp
  obtain ⟨u,hu,hrel⟩:=TF hv hRk hopnd
  rw [hu]
  refine hK ι _ _ (h.next hok (.refl _) hi ho ⟨c,hc,fun i' o' ho' hs'=>?_,hst⟩ fun d hd=>?_)
  ·have hne:i≠i':=fun e=>by subst e;rw [ho] at ho';cases ho';rw [hs] at hs';cases hs'
   rw [getD_set_ne false hne]
   exact hcl i' o' ho' hs'
  ·rw [hstep]
   show (DX (A i).t o.dst (V i) d).rel _ _
   rw [hd]
   show (upd (A i).t d (V i) d).rel _ _
   rw [upd_eq]
   exact hrel
 |true=>
  unfold Oper.wp
  obtain ⟨v,m',hv,hlen,hstep⟩:=hl.store i o ho hs
  have hci:c≤i:=by
   have:=(hcl i o ho hs).2
   rcases Nat.lt_or_ge i c with h' | h'
   ·rw [this h'] at hun;cases hun
   ·exact h'
  have hm:(A i).m=(A c).m:=by
   refine hl.mem' hci (Nat.le_of_lt hin) fun l o' h1 h2 ho'=>?_
   cases hs':Bf o' with
   |false=>rfl
   |true=>
    have:=(hcl l o' ho' hs').1 (hdeps l (hS.chain l i o' o h2 ho' ho hs' hs))
    omega
  rw [←hm] at hst
  obtain ⟨u,w',ι',hrun,hrel,hst2⟩:=Yq hv hst.r hopnd
  have hst3:Step k ι0 (A 0).m w0 ι' (A (i+1)).m w':=by
   rw [hstep]
   exact hst.comp (hst2.low (by rw [hl.len i (Nat.le_of_lt hin)];exact hk))
  have fin:∀u:Value,K (a.put o.dst u) w':=fun u=>by
   refine hK ι' _ _ (h.next hok (hst2.le hst.r) hi ho ⟨i+1,hin,fun i' o' ho' hs'=>?_,hst3⟩ fun d hd=>?_)
   ·by_cases hne:i=i'
    ·subst hne;simp [his]
    ·rw [getD_set_ne false hne]
     constructor
     ·intro hli
      rcases Nat.lt_or_ge i' (i+1) with h' | h'
      ·exact h'
      ·have:=E5 h.head.closed (hS.chain i i' o o' O_ ho ho' hs hs') ho' (h.head.closed i' o' ho' hli)
       rw [hun] at this;cases this
     ·intro hlt
      exact hdeps i' (hS.chain i' i o' o O_ ho' ho hs' hs)
   ·rw [hS.dst i o ho hs] at hd;cases hd
  rcases hrun with hrun | ⟨hrun,rfl⟩
  ·rw [hrun];exact fin u
  ·rw [hrun];exact fin undef
theorem Yv.any{Q':Exit→Act→World→Prop}(hl:IT P ops A V N0){k:Nat}{ι0:Emb}{w0:World}{a0:Act}(hS:OkS ops a0.tmps.size)(hf:EZ ι0 (A 0) a0)(hR0:R ι0 (A 0).m w0)(hk:k≤(A 0).m.length)
  (hQ:∀ι' a' w',EZ ι' (A ops.size) a'→a'.defers=a0.defers→Step k ι0 (A 0).m w0 ι' (A ops.size).m w'→Q' .normal a' w'):
  ∀(f:Nat) (un:List Nat) (listed:Array Bool) (ι:Emb) (a:Act) (w:World),un.length=f→un.Nodup→(∀j,j∈un↔j<ops.size∧listed.getD j false=false)→Yv ops A k ι0 w0 a0 listed ι a w→wpAny P .any ops Q' f listed a w:=by
 have hok:=hS.ok
 intro f
 induction f with
 |zero=>
  intro un listed ι a w hlu _ hun h
  obtain rfl:un=[]:=List.length_eq_zero_iff.1 hlu
  have hdone:∀j,j<ops.size→listed.getD j false=true:=fun j hj=>by
   cases hb:listed.getD j false with
   |true=>rfl
   |false=>have:=(hun j).2 ⟨hj,hb⟩;simp at this
  have hnil:Region.ready .any ops listed=[]:=by
   cases hr:Region.ready .any ops listed with
   |nil=>rfl
   |cons x xs=>
    have hx:x∈Region.ready .any ops listed:=by rw [hr];exact List.mem_cons_self
    obtain ⟨h1,o,ho,_⟩:=mem_ready.1 hx
    have:=hdone x (Array.getElem?_eq_some_iff.1 ho).1
    rw [getD_both h1] at this;cases this
  refine ⟨hnil,?_⟩
  obtain ⟨c,hc,hcl,hst⟩:=h.cut
  have hm:(A ops.size).m=(A c).m:=by
   refine hl.mem' hc (Nat.le_refl _) fun l o' h1 h2 ho'=>?_
   cases hs':Bf o' with
   |false=>rfl
   |true=>have:=(hcl l o' ho' hs').1 (hdone l h2);omega
  rw [←hm] at hst
  have hnn:(A ops.size).n=N0:=by
   cases hz:ops.size with
   |zero=>exact hl.h0
   |succ z=>
    have hlt:z<ops.size:=by omega
    have ho:ops[z]?=some (ops[z]'hlt):=Array.getElem?_eq_getElem hlt
    cases hs:Bf (ops[z]'hlt) with
    |true=>obtain ⟨v,m',_,_,e⟩:=hl.store z _ ho hs;rw [e]
    |false=>obtain ⟨_,e⟩:=hl.pure z _ ho hs;rw [e]
  refine hQ ι a w ⟨by rw [h.size,hf.size,hl.h0,hnn],fun t=>?_⟩ h.defers hst
  by_cases hex:∃j,j<ops.size∧Bm ops j=some t
  ·obtain ⟨j,hj,hd⟩:=hex
   rw [hl.slot' (i:=j+1) O_ (Nat.le_refl _) (fun l h1 h2 hd'=>by have:=hok.uniq l j t O_ hj hd' hd;omega)]
   exact h.hit j hj (hdone j hj) t hd
  ·have hno:∀j,j<ops.size→Bm ops j≠some t:=fun j hj hd=>hex ⟨j,hj,hd⟩
   rw [h.miss t (fun j hj _=>hno j hj),hl.slot' (i:=0) (Nat.zero_le _) (Nat.le_refl _) (fun l _ h2=>hno l O_)]
   exact AV.rel_mono h.le (hf.rel t)
 |succ f ih=>
  intro un listed ι a w hlu hnd hun h
  refine ⟨fun hnil=>?_,fun i hi=>?_⟩
  ·obtain ⟨i0,hi0⟩:∃i0,i0∈un:=by cases un with | nil=>simp at hlu | cons x _=>exact ⟨x,List.mem_cons_self⟩
   have least:∀m i,i≤m→i∈un→ ∃j,j∈Region.ready .any ops listed:=by
    intro m
    induction m with
    |zero=>
     intro i him hiu
     obtain ⟨hin,hb⟩:=(hun i).1 hiu
     refine ⟨i,mem_ready.2 ⟨getD_in (by rw [h.head.size];exact hin) hb,ops[i]'hin,Array.getElem?_eq_getElem hin,fun e he hbind=>?_⟩⟩
     have:=hS.back i _ e (Array.getElem?_eq_getElem hin) he hbind
     omega
    |succ m ihm=>
     intro i him hiu
     obtain ⟨hin,hb⟩:=(hun i).1 hiu
     by_cases hall:∀e∈(ops[i]'hin).after,Region.binds .any e=true→listed.getD e.on false=true
     ·exact ⟨i,mem_ready.2 ⟨getD_in (by rw [h.head.size];exact hin) hb,_,Array.getElem?_eq_getElem hin,hall⟩⟩
     ·have:∃e∈(ops[i]'hin).after,Region.binds .any e=true∧listed.getD e.on false=false:=by
       apply Classical.byContradiction
       intro hc
       apply hall
       intro e he hbind
       cases hlb:listed.getD e.on false with
       |true=>rfl
       |false=>exact absurd ⟨e,he,hbind,hlb⟩ hc
      obtain ⟨e,he,hbind,hlb⟩:=this
      have hlt:=hS.back i _ e (Array.getElem?_eq_getElem hin) he hbind
      exact ihm e.on O_ ((hun e.on).2 ⟨by omega,hlb⟩)
   obtain ⟨j,hj⟩:=least i0 i0 (Nat.le_refl _) hi0
   rw [hnil] at hj;cases hj
  ·obtain ⟨hun0,o,ho,_⟩:=mem_ready.1 hi
   have hin:i<ops.size:=(Array.getElem?_eq_some_iff.1 ho).1
   refine h.run hl hS hf hR0 hk hi fun ι' a' w' h'=>?_
   have himem:i∈un:=(hun i).2 ⟨hin,getD_both hun0⟩
   refine ih (un.erase i) _ ι' a' w' (by rw [List.length_erase_of_mem himem,hlu];rfl) (hnd.erase i) (fun j=>?_) h'
   rw [hnd.mem_erase_iff,hun j]
   by_cases hji:j=i
   ·subst hji
    have his:j<listed.size:=by rw [h.head.size];exact hin
    simp [his]
   ·rw [getD_set_ne false (fun e=>hji e.symm)]
    simp [hji]
theorem Vl {Q : Exit → Act → World → Prop} {id k : Nat} (hm : P.follows .mixedOrders = true) (hl : IT P ops A V (A 0).n) (hall : Region.okStores ops (A 0).n = true) {ι : Emb} {w : World} {a : Act} (hf : EZ ι (A 0) a) (hR : R ι (A 0).m w) (hk : k ≤ (A 0).m.length)
    (hQ : ∀ ι' a' w', EZ ι' (A ops.size) a' → a'.defers = a.defers → Step k ι (A 0).m w ι' (A ops.size).m w' → Q .normal a' w') : (Code.region id ops true).wp P Q a w := by
  refine wp_region_any hm ?_
  have hRd : R ι (A 0).m w.drew := ⟨hR.dom, hR.rows, hR.inj, hR.stay⟩
  have hinv : Yv ops A k ι w.drew a (Array.replicate ops.size false) ι a w.drew :=
    ⟨⟨0, Nat.zero_le _, fun i o _ _ => by rw [getD_replicate_false]; simp, Step.refl hRd hk⟩, .refl _, fun j _ hl => (by rw [getD_replicate_false] at hl; cases hl), fun _ _ => rfl, rfl, rfl,
      ⟨by simp, fun j oj _ hl => (by rw [getD_replicate_false] at hl; cases hl), fun t ht ht' => by omega⟩⟩
  exact Yv.any (Q' := Q) hl (Region.okStores_spec (by rw [hf.size]; exact hall)) hf hRd hk
    (fun ι' a' w' h1 h2 h3 => hQ ι' a' w' h1 h2 ⟨h3.r, ⟨h3.trans.os, h3.trans.tape, h3.trans.output, h3.trans.size, h3.trans.keep, h3.trans.fresh⟩, h3.tx, h3.txn, h3.ext, h3.len, h3.ro, h3.old, h3.news⟩) ops.size (List.range ops.size) _ _ _ _ (by simp) List.nodup_range (fun j => by rw [getD_replicate_false]; simp) hinv
end
theorem Kk(ι ι':Emb)(ht:∀c o v,ι.tx c o v→ι'.tx c o v):Same PL ι ι':=⟨fun _ _ h=>by (cases h),ht⟩
theorem YZ.rel{ρ:Nat→Option Nat}{ι ι':Emb}(ht:∀c o v,ι.tx c o v→ι'.tx c o v)(hs:∀j i,ρ j=some i→ι' j=ι i){x y:Cell}(h:YZ ρ x y){v:Value}(hr:x.rel ι v):y.rel ι' v:=by
 cases h with
 |same h=>rw [←h];exact Cell.ren_rel (Kk ι ι' ht) hr
 |ptr h=>obtain ⟨l,hl,rfl⟩:=hr;exact ⟨l,by rw [hs _ _ h];exact hl,rfl⟩
 |sl h=>
  obtain ⟨p,cap',rfl,h1,h2,h3⟩:=hr
  refine ⟨p,cap',rfl,h1,h2,h3.imp id ?_⟩
  rintro ⟨l,hl,r⟩
  exact ⟨l,by rw [hs _ _ h];exact hl,r⟩
 |nil=>simp only [Cell.rel] at hr;subst hr;exact ⟨none,0,rfl,Nat.le_refl _,Nat.le_refl _,.inl rfl⟩
 |emp=>obtain ⟨p,rfl⟩:=hr;exact ⟨p,0,rfl,Nat.le_refl _,Nat.le_refl _,.inl rfl⟩
theorem WM.rel{ρ:Nat→Option Nat}{ι ι':Emb}(ht:∀c o v,ι.tx c o v→ι'.tx c o v)(hs:∀j i,ρ j=some i→ι' j=ι i){l m:List AV}(h:WM ρ l m):∀ {vs:List Value},DP ι l vs→DP ι' m vs:=by
 induction h with
 |nil=>intro vs hr;cases vs with
  |nil=>trivial
  |cons v vs=>exact hr.elim
 |c h _ ih=>intro vs hr;cases vs with
  |nil=>exact hr.elim
  |cons v vs=>exact ⟨h.rel ht hs hr.1,ih hr.2⟩
 |@agg x l m h _ ih=>intro vs hr;cases vs with
  |nil=>exact hr.elim
  |cons v vs=>
   refine ⟨?_,ih hr.2⟩
   have:=AV.ren_rel (Kk ι ι' ht) hr.1
   rwa [show AV.ren PL (.agg x)= .agg x from congrArg AV.agg h] at this
section
variable {ρ:Nat→Option Nat} {m m' N:Az} {ι:Emb} {w:World}
def K0(ρ:Nat→Option Nat)(ι:Emb):Emb:=⟨fun j=>(ρ j).bind ι,ι.tx⟩
theorem AE1(hρ:∀j i,ρ j=some i→j<m'.length∧ ∃own x,m[i]?=some (.row own x)∧m'[j]?=some (.row false x)∧x.ren PL=x)(hR:R ι m w):R (K0 ρ ι) m' w:=by
 have at_:∀b l,K0 ρ ι b=some l→ ∃i,ρ b=some i∧ι i=some l:=fun b l h=>Option.bind_eq_some_iff.1 h
 refine ⟨fun b hb=>?_,fun b l own x h1 h2=>?_,fun b b' l l' own own' x x' _ h1 h1' h2 h2' ho=>?_,fun c Φ hc=>⟨(hR.stay c Φ (hc.to ι)).1,fun b l x h1 h2 _=>?_⟩⟩
 ·cases hv:K0 ρ ι b with
  |none=>rfl
  |some l=>obtain ⟨i,hi,_⟩:=at_ b l hv;have:=(hρ b i hi).1;omega
 ·obtain ⟨i,hi,hl⟩:=at_ b l h1
  obtain ⟨_,o,y,g1,g2,g3⟩:=hρ b i hi
  rw [g2] at h2;cases h2
  have:=(hR.rows i l o _ hl g1).ro.ren (Kk ι (K0 ρ ι) fun _ _ _ h=>h)
  rwa [g3] at this
 ·obtain ⟨i,hi,_⟩:=at_ b l h1
  obtain ⟨i',hi',_⟩:=at_ b' l' h1'
  obtain ⟨_,_,_,_,g2,_⟩:=hρ b i hi
  obtain ⟨_,_,_,_,g2',_⟩:=hρ b' i' hi'
  rw [g2] at h2;cases h2
  rw [g2'] at h2';cases h2'
  rcases ho with h | h<;>cases h
 ·obtain ⟨i,hi,_⟩:=at_ b l h1
  obtain ⟨_,_,_,_,g2,_⟩:=hρ b i hi
  rw [g2] at h2;cases h2
theorem vI(hρ:∀j i,ρ j=some i→j<m'.length∧ ∃own x,m[i]?=some (.row own x)∧m'[j]?=some (.row false x)∧x.ren PL=x)(hR:R ι m w){ι1:Emb}{w':World}(h:Step m'.length (K0 ρ ι) m' w ι1 (m'++N) w'):
  ∃ι2:Emb,Same (LI ρ m'.length m.length) ι1 ι2∧Step m.length ι m w ι2 (m++N.map (Row.ren (LI ρ m'.length m.length))) w':=by
 have unown:∀c,Dv (K0 ρ ι) m' c→False:=by
  rintro c ⟨b,l,x,h1,h2,_⟩
  obtain ⟨i,hi,_⟩:=Option.bind_eq_some_iff.1 h1
  obtain ⟨_,_,_,_,g2,_⟩:=hρ b i hi
  rw [g2] at h2;cases h2
 let ι2:Emb:=⟨fun b=>if b<m.length then ι b else ι1 (b-m.length+m'.length),ι1.tx⟩
 have lo:∀ {b},b<m.length→ι2 b=ι b:=fun hb=>if_pos hb
 have hi:∀ {b},m.length≤b→ι2 b=ι1 (b-m.length+m'.length):=fun hb=>if_neg O_
 have hle:ι.le ι2:=by
  refine ⟨fun b l hb=>?_,h.tx⟩
  have:b<m.length:=by
   rcases Nat.lt_or_ge b m.length with h' | h'
   ·exact h'
   ·rw [hR.dom b h'] at hb;cases hb
  rw [lo this];exact hb
 have same:Same (LI ρ m'.length m.length) ι1 ι2:=by
  refine ⟨fun j i hj=>?_,fun _ _ _ h=>h⟩
  unfold LI at hj
  split at hj
  ·rename_i hlt
   obtain ⟨_,o,x,g1,_,_⟩:=hρ j i hj
   rw [lo (List.getElem?_eq_some_iff.1 g1).1,h.ext j hlt]
   unfold K0
   dsimp only
   rw [hj];rfl
  ·rename_i hge
   cases hj
   rw [hi O_]
   congr 1
   omega
 have old:∀ {b own x},b<m.length→(m++N.map (Row.ren (LI ρ m'.length m.length)))[b]?=some (.row own x)→m[b]?=some (.row own x):=fun {b own x} hb hm=>by rw [List.getElem?_append_left hb] at hm;exact hm
 have new:∀ {b own x},m.length≤b→(m++N.map (Row.ren (LI ρ m'.length m.length)))[b]?=some (.row own x)→ ∃y,(m'++N)[b-m.length+m'.length]?=some (.row own y)∧x=y.ren (LI ρ m'.length m.length):=fun {b own x} hb hm=>by
  rw [List.getElem?_append_right hb,List.getElem?_map] at hm
  obtain ⟨r,hr,e⟩:=Option.map_eq_some_iff.1 hm
  obtain ⟨y,rfl,hy⟩:=ZQ e
  refine ⟨y,?_,hy⟩
  rw [List.getElem?_append_right O_,show b-m.length+m'.length-m'.length=b-m.length by omega]
  exact hr
 have far:∀ {b l own x},m.length≤b→ι2 b=some l→(m++N.map (Row.ren (LI ρ m'.length m.length)))[b]?=some (.row own x)→w.heap.size≤l.c:=fun {b l own x} hb hl hm=>by
  obtain ⟨y,hy,_⟩:=new hb hm
  rw [hi hb] at hl
  rcases h.news _ l own y O_ hl hy with h3 | h3 | ⟨b0,l0,o0,x0,h4,h5,h6,_⟩
  ·exact h3
  ·exact (unown _ h3).elim
  ·exact (Kd h4 h6).elim
 refine ⟨ι2,same,⟨⟨fun b hb=>?_,fun b l own x hb hm=>?_,fun b b' l l' own own' x x' hne hb hb' hm hm' hoo=>?_,fun c Φ hc=>⟨(h.r.stay c Φ (hc.to ι1)).1,fun b l x hb hm e=>?_⟩⟩,⟨h.trans.os,h.trans.tape,h.trans.output,h.trans.size,fun c hc _=>h.trans.keep c hc (unown c),fun c hc=>?_⟩,h.tx,fun c o v hc=>(h.txn c o v hc).imp id (.imp id fun h=>(unown _ h).elim),fun b hb=>lo hb,by simp,fun b x hb hm=>by rw [List.getElem?_append_left hb];exact hm,fun b own x hb hm=>⟨x,old hb hm⟩,fun b l own x hb h1 h2=> .inl (far hb h1 h2)⟩⟩
 ·rw [List.length_append,List.length_map] at hb
  rw [hi O_]
  exact h.r.dom _ (by rw [List.length_append];omega)
 ·rcases Nat.lt_or_ge b m.length with hs | hs
  ·rw [lo hs] at hb
   exact (hR.rows b l own x hb (old hs hm)).heap (h.trans.keep l.c (hR.lt hb (old hs hm)) (unown _)) hle
  ·obtain ⟨y,hy,rfl⟩:=new hs hm
   rw [hi hs] at hb
   exact (h.r.rows _ l own y hb hy).ren same
 ·rcases Nat.lt_or_ge b m.length with hs | hs<;>rcases Nat.lt_or_ge b' m.length with hs' | hs'
  ·rw [lo hs] at hb
   rw [lo hs'] at hb'
   exact hR.inj b b' l l' own own' x x' hne hb hb' (old hs hm) (old hs' hm') hoo
  ·rw [lo hs] at hb
   have h1:=hR.lt hb (old hs hm)
   have h2:=far hs' hb' hm'
   omega
  ·rw [lo hs'] at hb'
   have h1:=hR.lt hb' (old hs' hm')
   have h2:=far hs hb hm
   omega
  ·obtain ⟨y,hy,_⟩:=new hs hm
   obtain ⟨y',hy',_⟩:=new hs' hm'
   rw [hi hs] at hb
   rw [hi hs'] at hb'
   exact h.r.inj _ _ l l' own own' y y' O_ hb hb' hy hy' hoo
 ·rcases Nat.lt_or_ge b m.length with hs | hs
  ·rw [lo hs] at hb
   rcases h.stayn (hc.to ι1) with h3 | h3 | h3
   ·exact (hR.stay c Φ (h3.to ι)).2 b l x hb (old hs hm) e
   ·have:=hR.lt hb (old hs hm);omega
   ·exact unown _ h3
  ·obtain ⟨y,hy,_⟩:=new hs hm
   rw [hi hs] at hb
   exact (h.r.stay c Φ (hc.to ι1)).2 _ l y hb hy e
 ·obtain ⟨b,l,x,hb,hm,rfl⟩:=hc
  rcases Nat.lt_or_ge b m.length with hs | hs
  ·rw [lo hs] at hb
   exact .inr ⟨b,l,x,hb,old hs hm,rfl⟩
  ·exact .inl (far hs hb hm)
end
theorem dr{f:BitVec 64→BitVec 64→BitVec 64→AV}{l:List AV}{v:AV}(h:kh f l=some v):∃x y z:BitVec 64,l=[.c (.val (Bp x)),.c (.val (Bp y)),.c (.val (Bp z))]∧z.toNat≤1∧v=f x y z:=by
 unfold kh at h
 split at h
 ·rename_i a b c
  split at h
  ·rename_i x y z hx hy hz
   split at h
   ·rename_i hc
    cases h
    rw [PY hx,PY hy,PY hz]
    exact ⟨x,y,z,rfl,hc,rfl⟩
   ·cases h
  ·cases h
 ·cases h
theorem yC(P:Program)(x y c:BitVec 64)(hc:c.toNat≤1)(w:World):(add64Entry #[Bp x,Bp y,Bp c]).run P w= .ok (.tuple #[Bp (x+y+c),Bp (Cm x y c)]) w:=by
 have hx:=x.isLt;have hy:=y.isLt
 have h:=run_add64 (P:=P) (x.toNat:Int) (y.toNat:Int) (c.toNat:Int) O_ O_ O_ O_ w
 have e1:((x.toNat:Int)+(y.toNat:Int)+(c.toNat:Int))%18446744073709551616=tn (x+y+c):=by
  unfold tn;simp only [BitVec.toNat_add];omega
 have e2:((x.toNat:Int)+(y.toNat:Int)+(c.toNat:Int))/18446744073709551616=tn (Cm x y c):=by
  unfold tn Cm;rw [BitVec.toNat_ofNat];omega
 rw [e1,e2] at h
 exact h
theorem xo(P:Program)(x y c:BitVec 64)(hc:c.toNat≤1)(w:World):(sub64Entry #[Bp x,Bp y,Bp c]).run P w= .ok (.tuple #[Bp (x-y-c),Bp (Kj x y c)]) w:=by
 have hx:=x.isLt;have hy:=y.isLt
 have key:∀k:Nat,k≤1→(sub64Entry #[.int .u64 (x.toNat:Int),.int .u64 (y.toNat:Int),.int .u64 (k:Int)]).run P w=
   .ok (Extern.MathBitsCarry.pair ((x.toNat+Extern.MathBitsCarry.m64-y.toNat-k)%Extern.MathBitsCarry.m64) (if x.toNat<y.toNat+k then 1 else 0)) w:=by
  intro k hk
  have:k=0∨k=1:=by omega
  rcases this with rfl | rfl<;>rfl
 have h:=key c.toNat hc
 have e1:(x.toNat+Extern.MathBitsCarry.m64-y.toNat-c.toNat)%Extern.MathBitsCarry.m64=(x-y-c).toNat:=by
  simp only [Extern.MathBitsCarry.m64,BitVec.toNat_sub]
  omega
 have e2:(if x.toNat<y.toNat+c.toNat then 1 else 0)=(Kj x y c).toNat:=by
  unfold Kj;split<;>rfl
 rw [e1,e2] at h
 exact h
theorem li{P:Program}{c:Call}{e:Operand→AV}{ρ:Operand→Value}{O:Oper}{f:FuncId}{E:Array Value→Sem Value}(hO:O.op= .call c)(hc:c.callee= .value (.func f))(he:e (.func f)= .c (.val (.func (.func f) #[] #[])))(hf:cN P f E){ι:Emb}{m:Az}{w:World}(hR:R ι m w)
  (hρ:∀x∈(Op.call c).operands,(e x).rel ι (ρ x)) {v:AV} {u:Value} (hu:(E (c.args.map ρ)).run P w= .ok u w) (hv:v.rel ι u):Xc P ρ O ι m w v m:=by
 obtain ⟨fn,h1,h2,h3,h4,h5⟩:=hf.h
 have hfv:ρ (.func f)= .func (.func f) #[] #[]:=by
  have:=hρ (.func f) (by simp [Op.operands,Call.operands,hc])
  rw [he] at this
  exact this
 refine .inl ⟨u,w,ι,.inl ?_,hv,Step.refl hR (Nat.le_refl _)⟩
 have hcall:=run_callFunc_extern (P:=P) h1 h2 h3 h4 h5 (c.args.map ρ) w
 simp [execOp,hO,resolve,hc,hfv,Deferred.ofValue,invoke,hcall,hu]
theorem ADZ{ι:Emb}{e:Operand→AV}{ρ:Operand→Value}{c:Call}(hρ:∀x∈(Op.call c).operands,(e x).rel ι (ρ x)){x y z:Value}(h:c.args.toList.map e=[.c (.val x),.c (.val y),.c (.val z)]):c.args.map ρ= #[x,y,z]:=by
 have hm:∀o∈c.args.toList,(e o).rel ι (ρ o):=fun o ho=>hρ o (by simp [Op.operands,Call.operands];exact .inr (by simpa using ho))
 apply Array.ext'
 rw [Array.toList_map]
 generalize c.args.toList=l at*
 obtain ⟨a,b,d,rfl⟩:∃a b d,l=[a,b,d]:=by
  have hl:l.length=3:=by have:=congrArg List.length h;simpa using this
  cases l with
  |nil=>simp at hl
  |cons a l=>cases l with
   |nil=>simp at hl
   |cons b l=>cases l with
    |nil=>simp at hl
    |cons d l=>cases l with
     |nil=>exact ⟨a,b,d,rfl⟩
     |cons _ _=>simp at hl
 ·simp only [List.map_cons,List.map_nil,List.cons.injEq,and_true] at h
  obtain ⟨h1,h2,h3⟩:=h
  have k1:=hm a (by simp);rw [h1] at k1
  have k2:=hm b (by simp);rw [h2] at k2
  have k3:=hm d (by simp);rw [h3] at k3
  have k1':ρ a=x:=k1
  have k2':ρ b=y:=k2
  have k3':ρ d=z:=k3
  simp [k1',k2',k3']
theorem Ya{ρr:Nat→Option Nat}{ι ι':Emb}(hs:Same ρr ι ι'){e:Operand→AV}{ρ:Operand→Value}:∀(l:List Operand),(∀x∈l,(e x).rel ι (ρ x))→DP ι' ((l.map e).map (AV.ren ρr)) (l.map ρ)
 |[],_=>trivial
 |x::l,h=>⟨AV.ren_rel hs (h x List.mem_cons_self),Ya hs l fun y hy=>h y (List.mem_cons_of_mem _ hy)⟩
theorem VB{k:Nat}{roots:List AV}{M m:Az}{vs:List AV}{ids:List Nat}(h:canon k roots M=some (vs,m,ids)):YQ k M ids=true∧vs=roots.map (AV.ren (I1 k ids))∧m=FS k M ids:=by
 unfold canon at h
 simp only at h
 split at h
 ·rename_i hc;cases h;exact ⟨hc,rfl,rfl⟩
 ·cases h
theorem YY{ι:Emb}:∀ {l:List AV} {m:List Value},DP ι l m→l.length=m.length
 |[],[],_=>rfl
 |a::l,v::m,h=>by simp [YY h.2]
 |[],_::_,h=>h.elim
 |_::_,[],h=>h.elim
theorem Yd{ι:Emb}:∀ {l:List AV} {m:List Value},DP ι l m→ ∀i:Nat,(l.getD i (.c .any)).rel ι (m.getD i undef)
 |[],[],_,i=>by simp;trivial
 |a::l,v::m,h,i=>by
  cases i with
  |zero=>simpa using h.1
  |succ i=>simpa using Yd h.2 i
 |[],_::_,h,_=>h.elim
 |_::_,[],h,_=>h.elim
theorem fQ{ι:Emb}{a:Act}{ρr:Nat→Option Nat}:∀(keep:List Nat) (t:Nat→AV),(∀i∈keep,((t i).ren ρr).rel ι (a.tmps.getD i undef))→ ∀i,(AU keep ((keep.map t).map (AV.ren ρr)) i).rel ι (a.tmps.getD i undef)
 |[],_,_,i=>trivial
 |x::l,t,h,i=>by
  show (upd (AU l ((l.map t).map (AV.ren ρr))) x ((t x).ren ρr) i).rel ι _
  by_cases e:i=x
  ·subst e;rw [upd_eq];exact h i List.mem_cons_self
  ·rw [upd_ne _ _ e];exact fQ l t (fun j hj=>h j (List.mem_cons_of_mem _ hj)) i
theorem Yf{k:Nat}{keep:List Nat}{s s1:St}(h:clean k keep s=some s1){ι:Emb}{w:World}{a:Act}(hR:R ι s.m w)(hf:EZ ι s a):∃ι',EZ ι' s1 a∧Step k ι s.m w ι' s1.m w∧k≤s1.m.length:=by
 unfold clean at h
 split at h
 ·rename_i vs m ids hc
  cases h
  obtain ⟨hok,rfl,rfl⟩:=VB hc
  have hst:=NI hok hR
  refine ⟨GV k ids ι,⟨hf.size,fun t=>?_⟩,hst,hst.len⟩
  exact fQ keep s.t (fun i _=>AV.ren_rel (PV k ids ι) (hf.rel i)) t
 ·cases h
theorem jw{P:Program}{s:St}{r:ResultVar}{v:AV}(h:Mr P s r=some v){ι:Emb}{w:World}{a:Act}(hR:R ι s.m w)(hf:EZ ι s a):
  ∃u,(match r with | .tmp t=>pure (a.tmps.getD t undef) | .cell p t=>do loadVar t (←asAddr (a.tmps.getD p undef)):Sem Value).run P w= .ok u w∧v.rel0 ι u:=by
 cases r with
 |tmp t=>
  refine ⟨a.tmps.getD t undef,rfl,?_⟩
  have:=hf.rel t
  unfold Mr at h
  split at h
  ·rename_i heq;cases heq
   split at h
   ·cases h
   ·rename_i hne
    cases h
    cases hst:s.t t with
    |c x=>rw [hst] at this;exact this
    |agg x=>rw [hst] at this;exact this
    |tup l=>exact absurd hst (hne l)
  ·rename_i heq;cases heq
 |cell p ty=>
  unfold Mr at h
  split at h
  ·rename_i heq;cases heq
  ·rename_i heq
   cases heq
   split at h
   ·rename_i b o hp
    split at h
    ·rename_i own x hm
     have:=hf.rel p
     rw [hp] at this
     obtain ⟨l,hb,hv⟩:=this
     obtain ⟨cs,t',fr,k1,k2,k3,k4⟩:=hR.cells hb hm (Ym h)
     obtain ⟨u,hu,hr⟩:=MC h k1 k3
     refine ⟨u,?_,hr⟩
     show (do loadVar ty (←asAddr (a.tmps.getD p undef)):Sem Value).run P w=_
     rw [hv]
     simp only [asAddr,Sem.run_bind,Sem.run_pure,Result.andThen_ok,hu]
    ·cases h
   ·cases h
theorem T9{P:Program}{s:St}{ι:Emb}{w:World}{a:Act}(hR:R ι s.m w)(hf:EZ ι s a):∀ {rs:List ResultVar} {vs:List AV},JY P s rs=some vs→
  ∃us:List Value,(rs.mapM (fun r=>(match r with | .tmp t=>pure (a.tmps.getD t undef) | .cell p t=>do loadVar t (←asAddr (a.tmps.getD p undef)):Sem Value))).run P w= .ok us w∧us.length=vs.length∧ ∀(i:Nat) (x:AV) (u:Value),vs[i]?=some x→us[i]?=some u→x.rel0 ι u
 |[],vs,h=>by
  simp only [JY,Option.some.injEq] at h
  subst h
  exact ⟨[],by simp,rfl,fun i x u h=>by simp at h⟩
 |r::l,vs,h=>by
  unfold JY at h
  split at h
  ·rename_i v vs' hv hvs
   cases h
   obtain ⟨u,hu,hr⟩:=jw hv hR hf
   obtain ⟨us,hus,hl,hrs⟩:=T9 hR hf hvs
   refine ⟨u::us,?_,by simp [hl],fun i x y hx hy=>?_⟩
   ·rw [List.mapM_cons]
    simp only [Sem.run_bind,hu,Result.andThen_ok,hus,Sem.run_pure]
   ·cases i with
    |zero=>simp at hx hy;subst hx;subst hy;exact hr
    |succ i=>exact hrs i x y (by simpa using hx) (by simpa using hy)
  ·cases h
theorem dS{P:Program}{fn:Func}{s:St}{vs:List AV}(h:JY P s fn.results.toList=some vs){ι:Emb}{w:World}{a:Act}(hR:R ι s.m w)(hf:EZ ι s a):∃u,(results fn a.tmps).run P w= .ok u w∧(AC4 vs).rel ι u:=by
 obtain ⟨us,hus,hl,hr⟩:=T9 hR hf h
 have hmap:(fn.results.mapM (fun r=>(match r with | .tmp t=>pure (a.tmps.getD t undef) | .cell p t=>do loadVar t (←asAddr (a.tmps.getD p undef)):Sem Value))).run P w= .ok us.toArray w:=by
  have e:fn.results=fn.results.toList.toArray:=by simp
  rw [e,List.mapM_toArray,Sem.run_map,hus]
  rfl
 refine ⟨if h:us.toArray.size=1 then us.toArray[0] else .tuple us.toArray,?_,?_⟩
 ·unfold results
  rw [Sem.run_bind]
  erw [hmap]
  rfl
 ·match vs,us,hl,hr with
  |[v],[u],_,hr=>exact AV.rel_of0 (hr 0 v u rfl rfl)
  |[],[],_,_=>exact ⟨#[],rfl,rfl,fun i x u h=>by simp at h⟩
  |v::v'::vs,u::u'::us,hl,hr=>
   rw [dif_neg (by simp)]
   exact ⟨(u::u'::us).toArray,rfl,by simpa using hl,fun i x y hx hy=>hr i x y hx (by simpa using hy)⟩
theorem AKK{ι:Emb}{args:List AV}{vs:Array Value}{n:Nat}(h:DP ι args vs.toList)(hn:args.length≤n)(m:Az):EZ ι ⟨n,AHU args,m⟩ { tmps:=vs++Array.replicate (n-vs.size) undef,defers:=[] }:=by
 have hl:=YY h
 refine ⟨by simp;rw [←Array.length_toList,←hl];omega,fun t=>?_⟩
 have hg:=Yd h t
 show (args.getD t (.c .any)).rel ι _
 have e:(vs++Array.replicate (n-vs.size) undef).getD t undef=vs.toList.getD t undef:=by
  rw [Array.getD_eq_getD_getElem?,List.getD_eq_getElem?_getD,Array.getElem?_toList]
  by_cases ht:t<vs.size
  ·rw [Array.getElem?_append_left ht]
  ·rw [Array.getElem?_append_right O_,Array.getElem?_eq_none (show vs.size≤t by omega)]
   by_cases h2:t-vs.size<n-vs.size
   ·simp [h2]
   ·rw [Array.getElem?_eq_none (by simp;omega)]
 rw [e];exact hg
theorem sound{P:Program}{t:AGU}{r:Res}(h:Ev P t r):R5 P t r:=by
 induction h with
 |val h=>
  intro O ι w ρ hO hR hρ
  subst hO
  obtain ⟨u,hu,hv⟩:=TF h hR hρ
  exact .inl ⟨u,w,ι,.inl hu,hv,Step.refl hR (Nat.le_refl _)⟩
 |mem h=>
  intro O ι w ρ hO hR hρ
  subst hO
  exact .inl (Yq h hR hρ)
 |@fn c e m args mc bs v mc' f hc he hf hin h ih=>
  intro O ι w ρ hO hR hρ
  obtain ⟨hok,rfl,rfl⟩:=VB hin
  have hst:=NI hok hR
  have hlen:(FS 0 m bs).length=bs.length:=by simp [FS]
  have hfv:ρ (.func f)= .func (.func f) #[] #[]:=by
   have:=hρ (.func f) (by simp [Op.operands,Call.operands,hc])
   rw [he] at this
   exact this
  have hargs:=Ya (PV 0 bs ι) (e:=e) (ρ:=ρ) c.args.toList fun x hx=>hρ x (by simp [Op.operands,Call.operands];exact .inr (by simpa using hx))
  have hcall:=ih (GV 0 bs ι) w (c.args.map ρ) hst.r (by rw [Array.toList_map];exact hargs)
  refine .inr ⟨f,c.args.map ρ,?_,hcall.mono fun e' w' hq=>?_⟩
  ·cases hfn:P.funcs[f]? with
   |none=>rw [hfn] at hf;cases hf
   |some fn=>
    rw [hfn] at hf
    simp only [Option.any_some,Bool.and_eq_true,Bool.not_eq_true'] at hf
    have h1:fn.body.isNone=false:=by have:=hf.1;cases hb:fn.body<;>simp_all
    have h2:(fn.name== "runtime.NumGoroutine")=false:=hf.2
    have h1':¬fn.body=none:=by intro e0;rw [e0] at h1;cases h1
    have h2':¬fn.name= "runtime.NumGoroutine" :=by simpa using h2
    simp [execOp,hO,resolve,hc,hfv,Deferred.ofValue,invoke,callFunc,hfn,h1',h2']
  ·obtain ⟨u,ι',rfl,hv,hs⟩:=hq
   rw [hlen] at hs
   obtain ⟨h1,h2⟩:=ak hok hR hs hv
   exact ⟨u,_,rfl,h1,h2⟩
 |@add64 c e m v f hc he hf h=>
  intro O ι w ρ hO hR hρ
  obtain ⟨x,y,z,hl,hz,rfl⟩:=dr h
  have ha:=ADZ hρ hl
  refine li hO hc he hf hR hρ (u:= .tuple #[Bp (x+y+z),Bp (Cm x y z)]) (by rw [ha];exact yC P x y z hz w) ⟨#[Bp (x+y+z),Bp (Cm x y z)],rfl,rfl,fun i a u hi hu=>?_⟩
  match i,hi,hu with
  |0,hi,hu=>cases hi;cases hu;rfl
  |1,hi,hu=>cases hi;cases hu;rfl
  |i+2,hi,hu=>simp at hi
 |@sub64 c e m v f hc he hf h=>
  intro O ι w ρ hO hR hρ
  obtain ⟨x,y,z,hl,hz,rfl⟩:=dr h
  have ha:=ADZ hρ hl
  refine li hO hc he hf hR hρ (u:= .tuple #[Bp (x-y-z),Bp (Kj x y z)]) (by rw [ha];exact xo P x y z hz w) ⟨#[Bp (x-y-z),Bp (Kj x y z)],rfl,rfl,fun i a u hi hu=>?_⟩
  match i,hi,hu with
  |0,hi,hu=>cases hi;cases hu;rfl
  |1,hi,hu=>cases hi;cases hu;rfl
  |i+2,hi,hu=>simp at hi
 |nil=>exact fun _ ι w a hk hR hf Q hQ=>hQ ι a w hf rfl (Step.refl hR hk)
 |@cons k ops o l s v m' r hw hd h hk ih1 ih2=>
  intro _ ι w a hk' hR hf Q hQ
  have hwant:=U0 (fun d _=>hf.rel d) hw
  unfold wpList
  rw [if_pos hwant]
  refine .inl ((ih1 o ι w a.eval rfl hR fun x _=>kv hf x).wp rfl fun u w' ι' hv hst=>?_)
  have hf':EZ ι' ⟨s.n,DX s.t o.dst v,m'⟩ (a.put o.dst u):=(hf.mono (hst.le hR) s.m).put hd hv m'
  refine ih2 rfl ι' w' _ (Nat.le_trans hk' hst.len) hst.r hf' Q fun ι2 a2 w2 g1 g2 g3=>hQ ι2 a2 w2 g1 (by rw [g2];cases o.dst<;>rfl) ((hst.low hk').comp g3)
 |@skip k ops o l s r hw hd hk ih=>
  intro _ ι w a hk' hR hf Q hQ
  have hwant:=U0 (fun d _=>hf.rel d) hw
  unfold wpList
  rw [if_neg (by rw [hwant];simp)]
  exact ih rfl ι w _ hk' hR (hf.put (v:=wj) (u:=undef) hd rfl s.m) Q fun ι2 a2 w2 g1 g2 g3=>hQ ι2 a2 w2 g1 (by rw [g2];cases o.dst<;>rfl) g3
 |region h ih=>
  intro ι w a hk' hR hf Q hQ
  exact wp_region_list (ih rfl ι w a hk' hR hf Q hQ)
 |@draw k id ops s r n A W V N hm hok hA hW hV hS hk ihV ihk=>
  intro ι w a hk' hR hf Q hQ
  subst hA
  have hn:n≤ops.size:=by
   simp only [Region.okAll,Bool.and_eq_true,decide_eq_true_eq] at hok
   exact hok.1.1.1.1
  exact pt hm ⟨hn,rfl,hS⟩ hW ihV hok hf hR hk' fun ι' a' w' h1 h2 h3=>ihk rfl ι' w' a' h3.len h3.r h1 Q fun ι2 a2 w2 g1 g2 g3=>hQ ι2 a2 w2 g1 (g2.trans h2) (h3.comp g3)
 |@late k id ops s r n i0 A W V N hm hc hok hA hW hV hS hk ihV ihk=>
  intro ι w a hk' hR hf Q hQ
  subst hA
  have hn:n≤(Bk ops n i0).size:=by
   simp only [Region.okAll,Bool.and_eq_true,decide_eq_true_eq] at hok
   exact hok.1.1.1.1
  exact pu hm hc ⟨hn,rfl,hS⟩ hW ihV hok hf hR hk' fun ι' a' w' h1 h2 h3=>ihk rfl ι' w' a' h3.len h3.r h1 (nrm Q) fun ι2 a2 w2 g1 g2 g3=>⟨rfl,hQ ι2 a2 w2 g1 (g2.trans h2) (h3.comp g3)⟩
 |@clean k c s s1 r keep hc h ih=>
  cases r with
  |val v m=>trivial
  |out e s'=>
   intro ι w a hk' hR hf Q hQ
   obtain ⟨ι',h1,h2,h3⟩:=Yf hc hR hf
   exact ih ι' w a h3 h2.r h1 Q fun ι2 a2 w2 g1 g2 g3=>hQ ι2 a2 w2 g1 g2 (h2.comp g3)
 |@weak k c s s1 r hw h ih=>
  cases r with
  |val v m=>trivial
  |out e s'=>
   intro ι w a hk' hR hf Q hQ
   obtain ⟨ι',h1,h2⟩:=hw ι w a hk' hR hf
   exact ih ι' w a h2.len h2.r h1 Q fun ι2 a2 w2 g1 g2 g3=>hQ ι2 a2 w2 g1 g2 (h2.comp g3)
 |sem h=>exact h
 |snd h=>exact h
 |semF h=>exact h
 |@tidy k c s e s1 s2 keep h hc ih=>
  intro ι w a hk' hR hf Q hQ
  refine ih ι w a hk' hR hf Q fun ι2 a2 w2 g1 g2 g3=>?_
  obtain ⟨ι',h1,h2,h3⟩:=Yf hc g3.r g1
  exact hQ ι' a2 w2 h1 g2 (g3.comp h2)
 |@ro o e m v N h ih=>
  intro O ι w ρ hO hR hρ
  rcases ih O ι w ρ hO (AJC hR) hρ with ⟨u,w',ι',hr,hv,hs⟩ | ⟨f,args,hr,hc⟩
  ·rw [Ce] at hs
   exact .inl ⟨u,w',ι',hr,hv,sw hR hs⟩
  ·refine .inr ⟨f,args,hr,hc.mono fun e w' he=>?_⟩
   obtain ⟨u,ι',h1,h2,h3⟩:=he
   rw [Ce] at h3
   exact ⟨u,ι',h1,h2,sw hR h3⟩
 |@stores k id ops s A V hm hok hA hP hS=>
  subst hA
  intro ι w a hk' hR hf Q hQ
  exact Vl hm ⟨rfl,fun i o ho hs=>⟨.inl (hP i o ho hs).1,(hP i o ho hs).2⟩,hS⟩ hok hf hR hk' fun ι' a' w' h1 h2 h3=>hQ ι' a' w' h1 h2 h3
 |@stores2 k id ops s A V E hm hok hA hP hE hE2 hS ihE=>
  subst hA
  intro ι w a hk' hR hf Q hQ
  refine Vl hm ⟨rfl,fun i o ho hs=>⟨?_,(hE2 i o ho hs).2⟩,hS⟩ hok hf hR hk' fun ι' a' w' h1 h2 h3=>hQ ι' a' w' h1 h2 h3
  cases he:E i with
  |false=>exact .inr (.inr (hP i o ho hs he))
  |true=>exact .inr (.inl ⟨(hE2 i o ho hs).1 he,ihE i o ho hs he⟩)
 |cskip=>exact fun ι w a hk' hR hf Q hQ=>wp_skip (hQ ι a w hf rfl (Step.refl hR hk'))
 |label=>exact fun ι w a hk' hR hf Q hQ=>wp_label (hQ ι a w hf rfl (Step.refl hR hk'))
 |@seq k a b s s1 r h1 h2 ih1 ih2=>
  cases r with
  |val v m=>trivial
  |out e s'=>
   intro ι w a' hk' hR hf Q hQ
   exact wp_seq (Pr (ih1 ι w a' hk' hR hf _ fun ι2 a2 w2 g1 g2 g3=>Pr (ih2 ι2 w2 a2 g3.len g3.r g1 Q fun ι3 a3 w3 k1 k2 k3=>hQ ι3 a3 w3 k1 (k2.trans g2) (g3.comp k3))))
 |@seqx k a b s s1 e h1 he ih=>
  intro ι w a' hk' hR hf Q hQ
  refine wp_seq (Pr (ih ι w a' hk' hR hf _ fun ι2 a2 w2 g1 g2 g3=>?_))
  have:=hQ ι2 a2 w2 g1 g2 g3
  cases e with
  |normal=>exact absurd rfl he
  |_=>exact this
 |@cond k c a b s r t hc h ih=>
  cases r with
  |val v m=>trivial
  |out e s'=>
   intro ι w a' hk' hR hf Q hQ
   have hv:=kv hf c
   rw [hc] at hv
   exact wp_cond hv (Pr (ih ι w a' hk' hR hf Q hQ))
 |@block k id c s s1 e h ih=>
  intro ι w a' hk' hR hf Q hQ
  refine wp_block (Pr (ih ι w a' hk' hR hf _ fun ι2 a2 w2 g1 g2 g3=>?_))
  have:=hQ ι2 a2 w2 g1 g2 g3
  cases e with
  |normal=>exact this
  |ret=>exact this
  |exit i=>
   simp only [Ex.block,Ex.out,Exit.inBlock] at this ⊢
   split
   ·rename_i e;rw [if_pos e] at this;exact this
   ·rename_i e;rw [if_neg e] at this;exact this
 |@loop k c s s1 r h1 h2 ih1 ih2=>
  cases r with
  |val v m=>trivial
  |out e s'=>
   intro ι w a' hk' hR hf Q hQ
   exact Yc (Pr (ih1 ι w a' hk' hR hf _ fun ι2 a2 w2 g1 g2 g3=>ih2 ι2 w2 a2 g3.len g3.r g1 Q fun ι3 a3 w3 k1 k2 k3=>hQ ι3 a3 w3 k1 (k2.trans g2) (g3.comp k3)))
 |@loopx k c s s1 e h1 he ih=>
  intro ι w a' hk' hR hf Q hQ
  refine Yc (Pr (ih ι w a' hk' hR hf _ fun ι2 a2 w2 g1 g2 g3=>?_))
  have:=hQ ι2 a2 w2 g1 g2 g3
  cases e with
  |normal=>exact absurd rfl he
  |_=>exact this
 |exit=>exact fun ι w a hk' hR hf Q hQ=>wp_exit (hQ ι a w hf rfl (Step.refl hR hk'))
 |ret=>exact fun ι w a hk' hR hf Q hQ=>wp_ret (hQ ι a w hf rfl (Step.refl hR hk'))
 |@scope k c s s1 e h ih=>
  intro ι w a' hk' hR hf Q hQ
  refine wp_scope_straight (Pr (ih ι w a' hk' hR hf _ fun ι2 a2 w2 g1 g2 g3=>?_))
  have:=hQ ι2 a2 w2 g1 g2 g3
  cases e<;>exact this
 |@view f args m args' m' v N ρ hρ ha h ih=>
  intro ι w cargs hR hargs
  refine (ih (K0 ρ ι) w cargs (AE1 hρ hR) (WM.rel (ι:=ι) (ι':=K0 ρ ι) (fun _ _ _ h=>h) (fun j i hj=>by unfold K0;dsimp only;rw [hj];rfl) ha hargs)).mono fun e' w' hq=>?_
  obtain ⟨u,ι1,rfl,hv,hs⟩:=hq
  obtain ⟨ι2,hsame,hst⟩:=vI hρ hR hs
  exact ⟨u,ι2,rfl,AV.ren_rel hsame hv,hst⟩
 |@call f fn c args m e s' vs v m' ids hf hb hn h he hres hcan ih=>
  intro ι w cargs hR hargs
  obtain ⟨hok,hv,rfl⟩:=VB hcan
  simp only [List.map_cons,List.map_nil,List.cons.injEq,and_true] at hv
  subst hv
  refine calls_of_wp hf hb (Pr (ih ι w _ (Nat.le_refl _) hR (AKK hargs hn m) _ fun ι2 a2 w2 g1 g2 g3=>?_))
  obtain ⟨u,hu,hr⟩:=dS hres g3.r g1
  have hcs:=NI hok g3.r
  have fin:a2.defers=[]∧ ∃v,(results fn a2.tmps).run P w2= .ok v w2∧ ∃u ι',Ending.returned v= .returned u∧((AC4 vs).ren (I1 m.length ids)).rel ι' u∧Step m.length ι m w ι' (FS m.length s'.m ids) w2:=
   ⟨g2,u,hu,u,GV m.length ids ι2,rfl,AV.ren_rel (PV _ _ _) hr,g3.comp hcs⟩
  rcases he with rfl | rfl
  ·exact fin
  ·exact fin
def PartOf(ρ:Nat→Option (Nat×Nat))(m m':Az):Prop:= ∀j i o,ρ j=some (i,o)→j<m'.length∧ ∃own x y,m[i]?=some (.row own x)∧m'[j]?=some (.row false y)∧o+y.size≤x.size∧(∀k,k<y.size→y.get k=x.get (o+k))∧y.ren PL=y∧x.isMap=false∧y.isMap=false
inductive Yi (ρ:Nat→Option (Nat×Nat)):Cell→Cell→Prop
 |same {x:Cell} (h:x.ren PL=x):Yi ρ x x
 |ptr {b b' o k e:Nat} (h:ρ b'=some (b,o)) (he:e=o+k):Yi ρ (.ptr b e) (.ptr b' k)
 |sl {b b' o k e len cap sz:Nat} (h:ρ b'=some (b,o)) (he:e=o+k):Yi ρ (.sl b e len cap sz) (.sl b' k len cap sz)
 |nil {b' sz:Nat}:Yi ρ .nsl (.sl b' 0 0 0 sz)
 |emp {b' sz:Nat}:Yi ρ .esl (.sl b' 0 0 0 sz)
inductive T8 (ρ:Nat→Option (Nat×Nat)):List AV→List AV→Prop
 |nil:T8 ρ [] []
 |c {x y:Cell} {l m:List AV} (h:Yi ρ x y) (hl:T8 ρ l m):T8 ρ (.c x::l) (.c y::m)
 |agg {x:Arr} {l m:List AV} (h:x.ren PL=x) (hl:T8 ρ l m):T8 ρ (.agg x::l) (.agg x::m)
def F2(n m j:Nat):Option Nat:=if j<n then none else some (j-n+m)
def Gl(ρ:Nat→Option (Nat×Nat))(ι:Emb):Emb:=⟨fun j=>(ρ j).bind fun q=>(ι q.1).map fun l=>⟨l.c,l.off+q.2,l.n-q.2⟩,ι.tx⟩
section
variable {ρ:Nat→Option (Nat×Nat)} {m m' N:Az} {ι:Emb} {w:World}
theorem cL{j i o:Nat}(h:ρ j=some (i,o)):Gl ρ ι j=(ι i).map fun l=>⟨l.c,l.off+o,l.n-o⟩:=by
 unfold Gl;dsimp only;rw [h];rfl
theorem ID{j:Nat}{l:Loc}(h:Gl ρ ι j=some l):∃i o l0,ρ j=some (i,o)∧ι i=some l0∧l=⟨l0.c,l0.off+o,l0.n-o⟩:=by
 unfold Gl at h
 obtain ⟨⟨i,o⟩,h1,h2⟩:=Option.bind_eq_some_iff.1 h
 obtain ⟨l0,h3,rfl⟩:=Option.map_eq_some_iff.1 h2
 exact ⟨i,o,l0,h1,h3,rfl⟩
theorem Yi.rel{x y:Cell}(h:Yi ρ x y){v:Value}(hr:x.rel ι v):y.rel (Gl ρ ι) v:=by
 cases h with
 |same h=>rw [←h];exact Cell.ren_rel (Kk ι (Gl ρ ι) fun _ _ _ h=>h) hr
 |ptr h he=>
  obtain ⟨l,hl,rfl⟩:=hr
  subst he
  exact ⟨_,by rw [cL h,hl];rfl,by simp [Nat.add_assoc]⟩
 |sl h he=>
  subst he
  obtain ⟨p,cap',rfl,h1,h2,h3⟩:=hr
  refine ⟨p,cap',rfl,h1,h2,h3.imp id ?_⟩
  rintro ⟨l,hl,rfl,hn⟩
  exact ⟨_,by rw [cL h,hl];rfl,by simp [Nat.add_assoc],by show _≤l.n-_;omega⟩
 |nil=>simp only [Cell.rel] at hr;subst hr;exact ⟨none,0,rfl,Nat.le_refl _,Nat.le_refl _,.inl rfl⟩
 |emp=>obtain ⟨p,rfl⟩:=hr;exact ⟨p,0,rfl,Nat.le_refl _,Nat.le_refl _,.inl rfl⟩
theorem T8.rel{l m:List AV}(h:T8 ρ l m):∀ {vs:List Value},DP ι l vs→DP (Gl ρ ι) m vs:=by
 induction h with
 |nil=>intro vs hr;cases vs with
  |nil=>trivial
  |cons v vs=>exact hr.elim
 |c h _ ih=>intro vs hr;cases vs with
  |nil=>exact hr.elim
  |cons v vs=>exact ⟨h.rel hr.1,ih hr.2⟩
 |@agg x l m h _ ih=>intro vs hr;cases vs with
  |nil=>exact hr.elim
  |cons v vs=>
   refine ⟨?_,ih hr.2⟩
   have:=AV.ren_rel (Kk ι (Gl ρ ι) fun _ _ _ h=>h) hr.1
   rwa [show AV.ren PL (.agg x)= .agg x from congrArg AV.agg h] at this
theorem zS(hρ:PartOf ρ m m')(hR:R ι m w):R (Gl ρ ι) m' w:=by
 refine ⟨fun b hb=>?_,fun b l own x h1 h2=>?_,fun b b' l l' own own' x x' _ h1 h1' h2 h2' ho=>?_,fun c Φ hc=>⟨(hR.stay c Φ (hc.to ι)).1,fun b l x h1 h2 _=>?_⟩⟩
 ·cases hv:Gl ρ ι b with
  |none=>rfl
  |some l=>obtain ⟨i,o,l0,hi,_⟩:=ID hv;have:=(hρ b i o hi).1;omega
 ·obtain ⟨i,o,l0,hi,hl,rfl⟩:=ID h1
  obtain ⟨_,ow,xx,y,g1,g2,g3,g4,g5,g6,g7⟩:=hρ b i o hi
  rw [g2] at h2;cases h2
  obtain ⟨cs,t,fr,k1,k2,k3,_⟩:=hR.cells hl g1 g6
  refine .of g7 ⟨cs,t,fr,k1,by show _≤l0.n-o;omega,fun k hk=>?_,fun h=>by cases h⟩
  obtain ⟨v,e1,e2⟩:=k3 (o+k) O_
  refine ⟨v,by rw [show l0.off+o+k=l0.off+(o+k) from Nat.add_assoc _ _ _];exact e1,?_⟩
  rw [←g4 k hk] at e2
  have:=Cell.ren_rel (Kk ι (Gl ρ ι) fun _ _ _ h=>h) e2
  rwa [←Arr.ren_get,g5] at this
 ·obtain ⟨i,o,l0,hi,_⟩:=ID h1
  obtain ⟨i',o',l0',hi',_⟩:=ID h1'
  obtain ⟨_,_,_,_,_,g2,_⟩:=hρ b i o hi
  obtain ⟨_,_,_,_,_,g2',_⟩:=hρ b' i' o' hi'
  rw [g2] at h2;cases h2
  rw [g2'] at h2';cases h2'
  rcases ho with h | h<;>cases h
 ·obtain ⟨i,o,l0,hi,_⟩:=ID h1
  obtain ⟨_,_,_,_,_,g2,_⟩:=hρ b i o hi
  rw [g2] at h2;cases h2
theorem qV(hρ:PartOf ρ m m'):∀c,Dv (Gl ρ ι) m' c→False:=by
 rintro c ⟨b,l,x,h1,h2,_⟩
 obtain ⟨i,o,l0,hi,_⟩:=ID h1
 obtain ⟨_,_,_,_,_,g2,_⟩:=hρ b i o hi
 rw [g2] at h2;cases h2
theorem Ut{ιp:Emb}(unown:∀c,Dv ιp m' c→False)(htx:ιp.tx=ι.tx)(hR:R ι m w){ι1:Emb}{w':World}(h:Step m'.length ιp m' w ι1 (m'++N) w'):
  ∃ι2:Emb,Same (F2 m'.length m.length) ι1 ι2∧Step m.length ι m w ι2 (m++N.map (Row.ren (F2 m'.length m.length))) w':=by
 have htx1:∀c o v,ι.tx c o v→ι1.tx c o v:=fun c o v hc=>h.tx c o v (by rw [htx];exact hc)
 have htxn:∀c o v,ι1.tx c o v→ι.tx c o v∨w.heap.size≤c∨Dv ιp m' c:=fun c o v hc=>by have:=h.txn c o v hc;rwa [htx] at this
 let ι2:Emb:=⟨fun b=>if b<m.length then ι b else ι1 (b-m.length+m'.length),ι1.tx⟩
 have lo:∀ {b},b<m.length→ι2 b=ι b:=fun hb=>if_pos hb
 have hi:∀ {b},m.length≤b→ι2 b=ι1 (b-m.length+m'.length):=fun hb=>if_neg O_
 have hle:ι.le ι2:=by
  refine ⟨fun b l hb=>?_,htx1⟩
  have:b<m.length:=by
   rcases Nat.lt_or_ge b m.length with h' | h'
   ·exact h'
   ·rw [hR.dom b h'] at hb;cases hb
  rw [lo this];exact hb
 have same:Same (F2 m'.length m.length) ι1 ι2:=by
  refine ⟨fun j i hj=>?_,fun _ _ _ h=>h⟩
  unfold F2 at hj
  split at hj
  ·cases hj
  ·rename_i hge
   cases hj
   rw [hi O_]
   congr 1
   omega
 have old:∀ {b own x},b<m.length→(m++N.map (Row.ren (F2 m'.length m.length)))[b]?=some (.row own x)→m[b]?=some (.row own x):=fun {b own x} hb hm=>by rw [List.getElem?_append_left hb] at hm;exact hm
 have new:∀ {b own x},m.length≤b→(m++N.map (Row.ren (F2 m'.length m.length)))[b]?=some (.row own x)→ ∃y,(m'++N)[b-m.length+m'.length]?=some (.row own y)∧x=y.ren (F2 m'.length m.length):=fun {b own x} hb hm=>by
  rw [List.getElem?_append_right hb,List.getElem?_map] at hm
  obtain ⟨r,hr,e⟩:=Option.map_eq_some_iff.1 hm
  obtain ⟨y,rfl,hy⟩:=ZQ e
  refine ⟨y,?_,hy⟩
  rw [List.getElem?_append_right O_,show b-m.length+m'.length-m'.length=b-m.length by omega]
  exact hr
 have far:∀ {b l own x},m.length≤b→ι2 b=some l→(m++N.map (Row.ren (F2 m'.length m.length)))[b]?=some (.row own x)→w.heap.size≤l.c:=fun {b l own x} hb hl hm=>by
  obtain ⟨y,hy,_⟩:=new hb hm
  rw [hi hb] at hl
  rcases h.news _ l own y O_ hl hy with h3 | h3 | ⟨b0,l0,o0,x0,h4,h5,h6,_⟩
  ·exact h3
  ·exact (unown _ h3).elim
  ·exact (Kd h4 h6).elim
 refine ⟨ι2,same,⟨⟨fun b hb=>?_,fun b l own x hb hm=>?_,fun b b' l l' own own' x x' hne hb hb' hm hm' hoo=>?_,fun c Φ hc=>⟨(h.r.stay c Φ (hc.to ι1)).1,fun b l x hb hm e=>?_⟩⟩,⟨h.trans.os,h.trans.tape,h.trans.output,h.trans.size,fun c hc _=>h.trans.keep c hc (unown c),fun c hc=>?_⟩,htx1,fun c o v hc=>(htxn c o v hc).imp id (.imp id fun h=>(unown _ h).elim),fun b hb=>lo hb,by simp,fun b x hb hm=>by rw [List.getElem?_append_left hb];exact hm,fun b own x hb hm=>⟨x,old hb hm⟩,fun b l own x hb h1 h2=> .inl (far hb h1 h2)⟩⟩
 ·rw [List.length_append,List.length_map] at hb
  rw [hi O_]
  exact h.r.dom _ (by rw [List.length_append];omega)
 ·rcases Nat.lt_or_ge b m.length with hs | hs
  ·rw [lo hs] at hb
   exact (hR.rows b l own x hb (old hs hm)).heap (h.trans.keep l.c (hR.lt hb (old hs hm)) (unown _)) hle
  ·obtain ⟨y,hy,rfl⟩:=new hs hm
   rw [hi hs] at hb
   exact (h.r.rows _ l own y hb hy).ren same
 ·rcases Nat.lt_or_ge b m.length with hs | hs<;>rcases Nat.lt_or_ge b' m.length with hs' | hs'
  ·rw [lo hs] at hb
   rw [lo hs'] at hb'
   exact hR.inj b b' l l' own own' x x' hne hb hb' (old hs hm) (old hs' hm') hoo
  ·rw [lo hs] at hb
   have h1:=hR.lt hb (old hs hm)
   have h2:=far hs' hb' hm'
   omega
  ·rw [lo hs'] at hb'
   have h1:=hR.lt hb' (old hs' hm')
   have h2:=far hs hb hm
   omega
  ·obtain ⟨y,hy,_⟩:=new hs hm
   obtain ⟨y',hy',_⟩:=new hs' hm'
   rw [hi hs] at hb
   rw [hi hs'] at hb'
   exact h.r.inj _ _ l l' own own' y y' O_ hb hb' hy hy' hoo
 ·rcases Nat.lt_or_ge b m.length with hs | hs
  ·rw [lo hs] at hb
   rcases (h.stayn (hc.to ι1)).imp (fun k=>k.cast htx) id with h3 | h3 | h3
   ·exact (hR.stay c Φ (h3.to ι)).2 b l x hb (old hs hm) e
   ·have:=hR.lt hb (old hs hm);omega
   ·exact unown _ h3
  ·obtain ⟨y,hy,_⟩:=new hs hm
   rw [hi hs] at hb
   exact (h.r.stay c Φ (hc.to ι1)).2 _ l y hb hy e
 ·obtain ⟨b,l,x,hb,hm,rfl⟩:=hc
  rcases Nat.lt_or_ge b m.length with hs | hs
  ·rw [lo hs] at hb
   exact .inr ⟨b,l,x,hb,old hs hm,rfl⟩
  ·exact .inl (far hs hb hm)
theorem uc (hρ : PartOf ρ m m') (hR : R ι m w) {ι1 : Emb} {w' : World} (h : Step m'.length (Gl ρ ι) m' w ι1 (m' ++ N) w') :
    ∃ ι2 : Emb, Same (F2 m'.length m.length) ι1 ι2 ∧ Step m.length ι m w ι2 (m ++ N.map (Row.ren (F2 m'.length m.length))) w' := Ut (ι := ι) (qV hρ) rfl hR h
theorem Ev.part{P:Program}{f:FuncId}{args args':List AV}{v:AV}(ρ:Nat→Option (Nat×Nat))(hρ:PartOf ρ m m')(ha:T8 ρ args args')
  (h:Ev P (.call f args' m') (.val v (m'++N))):Ev P (.call f args m) (.val (v.ren (F2 m'.length m.length)) (m++N.map (Row.ren (F2 m'.length m.length)))):=
 Ev.semF fun ι w vs hR hargs=>by
  refine (sound h (Gl ρ ι) w vs (zS hρ hR) (ha.rel hargs)).mono fun e' w' hq=>?_
  obtain ⟨u,ι1,rfl,hv,hs⟩:=hq
  obtain ⟨ι2,hsame,hst⟩:=uc hρ hR hs
  exact ⟨u,ι2,rfl,AV.ren_rel hsame hv,hst⟩
end
inductive GC (m:Az):List (Option (Nat×Nat))→Az→Prop
 |nil:GC m [] []
 |no {r:Row} {os:List (Option (Nat×Nat))} {m':Az} (hl:GC m os m'):GC m (none::os) (r::m')
 |a8 {i o n:Nat} {own:Bool} {b:AA 8} {os:List (Option (Nat×Nat))} {m':Az} (hm:m[i]?=some (.row own (.a8 b))) (h:o+n≤b.length) (hl:GC m os m'):GC m (some (i,o)::os) (.row false (.a8 (cut b o n))::m')
 |all {i:Nat} {own:Bool} {x:Arr} {os:List (Option (Nat×Nat))} {m':Az} (hm:m[i]?=some (.row own x)) (h:x.ren PL=x) (hl:GC m os m') (hx:x.isMap=false:=by rfl):GC m (some (i,0)::os) (.row false x::m')
def TS(os:List (Option (Nat×Nat)))(j:Nat):Option (Nat×Nat):=(os[j]?).bind id
theorem GC.get{m:Az}{os:List (Option (Nat×Nat))}{m':Az}(h:GC m os m'):∀ {j i o:Nat},os[j]?=some (some (i,o))→j<m'.length∧ ∃own x y,m[i]?=some (.row own x)∧m'[j]?=some (.row false y)∧o+y.size≤x.size∧(∀k,k<y.size→y.get k=x.get (o+k))∧y.ren PL=y∧x.isMap=false∧y.isMap=false:=by
 induction h with
 |nil=>intro j i o hj;simp at hj
 |no _ ih=>
  intro j i o hj
  cases j with
  |zero=>simp at hj
  |succ j=>
   rw [List.getElem?_cons_succ] at hj
   obtain ⟨h1,ow,x,y,h2,h3,h4⟩:=ih hj
   exact ⟨by simpa using h1,ow,x,y,h2,by rw [List.getElem?_cons_succ];exact h3,h4⟩
 |@a8 i o n own b os m' hm h _ ih=>
  intro j i' o' hj
  cases j with
  |zero=>
   simp only [List.getElem?_cons_zero,Option.some.injEq,Prod.mk.injEq] at hj
   obtain ⟨rfl,rfl⟩:=hj
   have hl:(cut b o n).length=n:=by simp [cut];omega
   refine ⟨by simp,own,.a8 b,.a8 (cut b o n),hm,rfl,by show o+(cut b o n).length≤b.length;omega,fun k hk=>?_,rfl,rfl,rfl⟩
   have hk':k<n:=by have:k<(cut b o n).length:=hk;omega
   show Cell.val (U8 (nth (cut b o n) k))=Cell.val (U8 (nth b (o+k)))
   rw [show nth (cut b o n) k=nth b (o+k) from Qa b o n k _ hk']
  |succ j=>
   rw [List.getElem?_cons_succ] at hj
   obtain ⟨h1,ow,x,y,h2,h3,h4⟩:=ih hj
   exact ⟨by simpa using h1,ow,x,y,h2,by rw [List.getElem?_cons_succ];exact h3,h4⟩
 |@all i own x os m' hm h _ hx ih=>
  intro j i' o' hj
  cases j with
  |zero=>
   simp only [List.getElem?_cons_zero,Option.some.injEq,Prod.mk.injEq] at hj
   obtain ⟨rfl,rfl⟩:=hj
   exact ⟨by simp,own,x,x,hm,rfl,by omega,fun k hk=>by rw [Nat.zero_add],h,hx,hx⟩
  |succ j=>
   rw [List.getElem?_cons_succ] at hj
   obtain ⟨h1,ow,x,y,h2,h3,h4⟩:=ih hj
   exact ⟨by simpa using h1,ow,x,y,h2,by rw [List.getElem?_cons_succ];exact h3,h4⟩
theorem GC.of{m:Az}{os:List (Option (Nat×Nat))}{m':Az}(h:GC m os m'):PartOf (TS os) m m':=by
 intro j i o hj
 unfold TS at hj
 obtain ⟨o',h1,h2⟩:=Option.bind_eq_some_iff.1 hj
 simp only [id_eq] at h2
 subst h2
 exact h.get h1
theorem Ev.parts{P:Program}{f:FuncId}{m m' N N':Az}{args args':List AV}{v v':AV}(os:List (Option (Nat×Nat)))(hr:GC m os m')(ha:T8 (TS os) args args')
  (h:Ev P (.call f args' m') (.val v (m'++N))) (hv:v.ren (F2 m'.length m.length)=v') (hN:N.map (Row.ren (F2 m'.length m.length))=N'):Ev P (.call f args m) (.val v' (m++N')):=by
 subst hv hN
 exact Ev.part (TS os) hr.of ha h
def sZ(m:Az):Bool:=m.all fun | .row true _=>false | _=>true
theorem Tk{m:Az}(h:sZ m=true){b:Nat}{own:Bool}{x:Arr}(hm:m[b]?=some (.row own x)):own=false:=by
 have:=List.all_eq_true.1 h _ (List.mem_of_getElem? hm)
 cases own with
 |false=>rfl
 |true=>cases this
inductive UI (m':Az):List Nat→List AV→List AV→Prop
 |nil:UI m' [] [] []
 |same {fs:List Nat} {x:AV} {l l':List AV} (h:UI m' fs l l'):UI m' fs (x::l) (x::l')
 |bs {fs:List Nat} {b:Nat} {y:AA 8} {l l':List AV} (hm:m'[b]?=some (.row false (.a8 y))) (hb:fs.contains b=false) (h:UI m' fs l l'):UI m' (b::fs) (.c (.bs y)::l) (.c (.sl b 0 y.length y.length 1)::l')
 |is {fs:List Nat} {b:Nat} {y:List Int} {l l':List AV} (hm:m'[b]?=some (.row false (.ai y))) (hb:fs.contains b=false) (h:UI m' fs l l'):UI m' (b::fs) (.c (.is y)::l) (.c (.sl b 0 y.length y.length 1)::l')
theorem nK{ι:Emb}{m':Az}{w:World}(hR:R ι m' w)(hro:sZ m'=true){b:Nat}{y:Arr}(hm:m'[b]?=some (.row false y))(hb:ι b=none)(hy:y.isMap=false){g:Nat→Value}(hg:∀(ι:Emb) i,i<y.size→(y.get i).rel ι (g i)){v:Value}(hv:DZ ι g y.size v):
  ∃ι':Emb,R ι' m' w∧ι'.tx=ι.tx∧ι.le ι'∧(∀i,i≠b→ι' i=ι i)∧Cell.rel ι' (.sl b 0 y.size y.size 1) v:=by
 obtain ⟨p,cap,rfl,h1,h2⟩:=hv
 rcases h2 with h2 | ⟨c,o,rfl,⟨o',v',hbb⟩,hr⟩
 ·exact ⟨ι,hR,rfl,.refl _,fun _ _=>rfl,⟨p,cap,rfl,h1,h1,.inl h2⟩⟩
 ·obtain ⟨⟨cs,t,fr,e1,e2⟩,_⟩:=hR.txt _ _ _ hbb
  have hle:ι.le (ι.upd b ⟨c,o,cap⟩):=⟨fun i l hi=>by
   by_cases e:i=b
   ·subst e;rw [hb] at hi;cases hi
   ·rw [Emb.upd_ne e];exact hi,fun _ _ _ h=>h⟩
  refine ⟨ι.upd b ⟨c,o,cap⟩,⟨fun i hi=>?_,fun i l own x hi h3=>?_,fun i i' l l' own own' x x' _ _ _ h3 h3' ho=>?_,fun c Φ hc=>⟨(hR.stay c Φ (hc.to ι)).1,fun i l x _ h3=>?_⟩⟩,rfl,hle,fun i hi=>Emb.upd_ne hi,⟨_,cap,rfl,h1,h1,.inr ⟨_,Emb.upd_eq _ _ _,rfl,by simp⟩⟩⟩
  ·have:i≠b:=fun e=>by
    have:=(List.getElem?_eq_some_iff.1 hm).1
    omega
   rw [Emb.upd_ne this];exact hR.dom i hi
  ·by_cases e:i=b
   ·subst e
    rw [Emb.upd_eq] at hi
    cases hi
    rw [hm] at h3;cases h3
    refine .of hy ⟨cs,t,fr,e1,h1,fun j hj=>?_,fun h=>by cases h⟩
    obtain ⟨⟨cs',t',fr',f1,f2⟩,_⟩:=hR.txt _ _ _ (hr j hj)
    rw [e1] at f1;cases f1
    exact ⟨_,f2,hg _ j hj⟩
   ·rw [Emb.upd_ne e] at hi
    exact (hR.rows i l own x hi h3).mono hle
  ·rcases ho with ho | ho
   ·have:=Tk hro h3;subst ho;cases this
   ·have:=Tk hro h3';subst ho;cases this
  ·have:=Tk hro h3;cases this
theorem UI.rel{m':Az}{w:World}{ι:Emb}(hR:R ι m' w)(hro:sZ m'=true){fs:List Nat}{l l':List AV}(h:UI m' fs l l'):(∀b,fs.contains b=true→ι b=none)→ ∀ {vs:List Value},DP ι l vs→
  ∃ι':Emb,R ι' m' w∧ι'.tx=ι.tx∧ι.le ι'∧(∀i,fs.contains i=false→ι' i=ι i)∧DP ι' l' vs:=by
 have args:∀ {l:List AV} {vs:List Value} {ι ι':Emb},ι.le ι'→DP ι l vs→DP ι' l vs:=by
  intro l
  induction l with
  |nil=>intro vs ι ι' _ h;cases vs<;>exact h
  |cons x l ih=>intro vs ι ι' hl h;cases vs with
   |nil=>exact h
   |cons v vs=>exact ⟨AV.rel_mono hl h.1,ih hl h.2⟩
 induction h with
 |nil=>intro _ vs hr;exact ⟨ι,hR,rfl,.refl _,fun _ _=>rfl,hr⟩
 |same _ ih=>
  intro hfs vs hr
  cases vs with
  |nil=>exact hr.elim
  |cons v vs=>
   obtain ⟨ι',k1,k2,k3,k4,k5⟩:=ih hfs hr.2
   exact ⟨ι',k1,k2,k3,k4,AV.rel_mono k3 hr.1,k5⟩
 |@bs fs b y l l' hm hb _ ih=>
  intro hfs vs hr
  cases vs with
  |nil=>exact hr.elim
  |cons v vs=>
   obtain ⟨ι',k1,k2,k3,k4,k5⟩:=ih (fun i hi=>hfs i (by simp only [List.contains_cons,hi,Bool.or_true])) hr.2
   have h0:ι' b=none:=by rw [k4 b hb];exact hfs b (by simp)
   have hv:DZ ι' (fun i=>U8 (nth y i)) (Arr.a8 y).size v:=Cell.rel_mono (x:= .bs y) k3 hr.1
   obtain ⟨ι2,j1,j2,j3,j4,j5⟩:=nK k1 hro hm h0 rfl (fun _ _ _=>rfl) hv
   refine ⟨ι2,j1,j2.trans k2,⟨fun b l h=>j3.f b l (k3.f b l h),fun c o v h=>j3.tx c o v (k3.tx c o v h)⟩,fun i hi=>?_,j5,args j3 k5⟩
   simp only [List.contains_cons,Bool.or_eq_false_iff] at hi
   rw [j4 i (by simpa using hi.1),k4 i hi.2]
 |@is fs b y l l' hm hb _ ih=>
  intro hfs vs hr
  cases vs with
  |nil=>exact hr.elim
  |cons v vs=>
   obtain ⟨ι',k1,k2,k3,k4,k5⟩:=ih (fun i hi=>hfs i (by simp only [List.contains_cons,hi,Bool.or_true])) hr.2
   have h0:ι' b=none:=by rw [k4 b hb];exact hfs b (by simp)
   have hv:DZ ι' (fun i=> .int .i64 (y.getD i 0)) (Arr.ai y).size v:=Cell.rel_mono (x:= .is y) k3 hr.1
   obtain ⟨ι2,j1,j2,j3,j4,j5⟩:=nK k1 hro hm h0 rfl (fun _ _ _=>rfl) hv
   refine ⟨ι2,j1,j2.trans k2,⟨fun b l h=>j3.f b l (k3.f b l h),fun c o v h=>j3.tx c o v (k3.tx c o v h)⟩,fun i hi=>?_,j5,args j3 k5⟩
   simp only [List.contains_cons,Bool.or_eq_false_iff] at hi
   rw [j4 i (by simpa using hi.1),k4 i hi.2]
theorem Ev.partsB{P:Program}{f:FuncId}{m m' N N':Az}{args args1 args':List AV}{v v':AV}(os:List (Option (Nat×Nat)))(fs:List Nat)(hr:GC m os m')(ha:T8 (TS os) args args1)(hs:UI m' fs args1 args')(hro:sZ m'=true)(hfs:fs.all (fun b=>(TS os b).isNone)=true)
  (h:Ev P (.call f args' m') (.val v (m'++N))) (hv:v.ren (F2 m'.length m.length)=v') (hN:N.map (Row.ren (F2 m'.length m.length))=N'):Ev P (.call f args m) (.val v' (m++N')):=by
 subst hv hN
 refine Ev.semF fun ι w vs hR hargs=>?_
 obtain ⟨ιp,k1,k2,k3,k4,k5⟩:=hs.rel (zS hr.of hR) hro (fun b hb=>by
  have:=List.all_eq_true.1 hfs b (by simpa using hb)
  unfold Gl
  simp only [Option.isNone_iff_eq_none] at this
  simp only [this,Option.bind_none]) (ha.rel hargs)
 refine (sound h ιp w vs k1 k5).mono fun e' w' hq=>?_
 obtain ⟨u,ι1,rfl,hv,hst⟩:=hq
 obtain ⟨ι2,hsame,hst⟩:=Ut (ι:=ι) (fun c ⟨b,l,x,_,h2,_⟩=>by have:=Tk hro h2;cases this) k2 hR hst
 exact ⟨u,ι2,rfl,AV.ren_rel hsame hv,hst⟩
structure WO(P:Program)(k:Nat)(ops:Array Oper)(l:List Oper)(s:St)(K:St→Prop):Prop where
 h:∃r,Ev P (.ops k ops l s) (.out .normal r)∧K r
structure WC(P:Program)(k:Nat)(c:Code)(s:St)(Φ:Ex→St→Prop):Prop where
 h:∃e r,Ev P (.code k c s) (.out e r)∧Φ e r
theorem BV{α:Type}(l:List α)(o n:Nat):(cut l o n).length=min n (l.length-o):=by simp [cut]
theorem sm{n:Nat}(l:AA n)(i:Nat)(v:BitVec n):l.set i v=put l i v:=rfl
theorem XL{n:Nat}(l:AA n)(k:Nat)(x y:BitVec n):put (put l k x) k y=put l k y:=by simp [put]
theorem lS(l:List Int)(i:Nat)(v:Int):(pr l i v).length=l.length:=by simp [pr]
theorem AI3(l:AA 8)(i:Nat)(v:BitVec 8):(Arr.a8 l).set i (.val (U8 v))=some (.a8 (put l i v)):=by simp [Arr.set]
theorem AKC(l:AA 32)(i:Nat)(v:BitVec 32):(Arr.a32 l).set i (.val (EQ v))=some (.a32 (put l i v)):=by simp [Arr.set]
theorem ADe(l:AA 64)(i:Nat)(v:BitVec 64):(Arr.a64 l).set i (.val (Bp v))=some (.a64 (put l i v)):=by simp [Arr.set]
theorem ALl(l:List Int)(i:Nat)(v:Int):(Arr.ai l).set i (.val (.int .i64 v))=some (.ai (pr l i v)):=by simp [Arr.set,i?]
section
variable {P:Program} {k N:Nat} {ops:Array Oper} {d:Nat} {ty:TypeId} {pos:String} {af:Array Edge} {l:List Oper} {T:Nat→AV} {M M':Az} {K:St→Prop}
theorem AR{s:St}(h:K s):WO P k ops [] s K:=⟨⟨s,Ev.nil,h⟩⟩
theorem AB{op:Op}{v:AV}(h:AS P (AF T) M op=some v)(hd:decide (d<N)=true)(hk:WO P k ops l ⟨N,upd T d v,M⟩ K):WO P k ops (⟨some d,op,ty,pos,af,none⟩::l) ⟨N,T,M⟩ K:=
 let ⟨r,h1,h2⟩:=hk.h;⟨⟨r,Ev.cons rfl hd (Ev.val h) h1,h2⟩⟩
theorem UZ{op:Op}{v:AV}(h:DK P (AF T) M op=some (v,M'))(hd:decide (d<N)=true)(hk:WO P k ops l ⟨N,upd T d v,M'⟩ K):WO P k ops (⟨some d,op,ty,pos,af,none⟩::l) ⟨N,T,M⟩ K:=
 let ⟨r,h1,h2⟩:=hk.h;⟨⟨r,Ev.cons rfl hd (Ev.mem h) h1,h2⟩⟩
theorem AAC{op:Op}{v:AV}(h:DK P (AF T) M op=some (v,M'))(hk:WO P k ops l ⟨N,T,M'⟩ K):WO P k ops (⟨none,op,ty,pos,af,none⟩::l) ⟨N,T,M⟩ K:=
 let ⟨r,h1,h2⟩:=hk.h;⟨⟨r,Ev.cons rfl rfl (Ev.mem h) h1,h2⟩⟩
theorem Ap{op:Op}{v:AV}{news:Az}(h:DK P (AF T) M op=some (v,M++news))(hM:M++news=M')(hd:decide (d<N)=true)(hk:WO P k ops l ⟨N,upd T d v,M'⟩ K):WO P k ops (⟨some d,op,ty,pos,af,none⟩::l) ⟨N,T,M⟩ K:=
 UZ (by rw [h,hM]) hd hk
theorem Hl{op:Op}{v:AV}(h:Ev P (.op op (AF T) M) (.val v M'))(hd:decide (d<N)=true)(hk:WO P k ops l ⟨N,upd T d v,M'⟩ K):WO P k ops (⟨some d,op,ty,pos,af,none⟩::l) ⟨N,T,M⟩ K:=
 let ⟨r,h1,h2⟩:=hk.h;⟨⟨r,Ev.cons rfl hd h h1,h2⟩⟩
theorem AD3{op:Op}{v:AV}(h:Ev P (.op op (AF T) M) (.val v M'))(hk:WO P k ops l ⟨N,T,M'⟩ K):WO P k ops (⟨none,op,ty,pos,af,none⟩::l) ⟨N,T,M⟩ K:=
 let ⟨r,h1,h2⟩:=hk.h;⟨⟨r,Ev.cons rfl rfl h h1,h2⟩⟩
theorem CQ{op:Op}{v:AV}{news:Az}(h:Ev P (.op op (AF T) M) (.val v (M++news)))(hM:M++news=M')(hd:decide (d<N)=true)(hk:WO P k ops l ⟨N,upd T d v,M'⟩ K):WO P k ops (⟨some d,op,ty,pos,af,none⟩::l) ⟨N,T,M⟩ K:=
 Hl (by rw [←hM];exact h) hd hk
theorem Ee{o:Oper}{s:St}(hw:Ci ops s.t o=some true)(h:WO P k ops (⟨o.dst,o.op,o.type,o.pos,o.after,none⟩::l) s K):WO P k ops (o::l) s K:=by
 obtain ⟨r,h1,h2⟩:=h.h
 refine ⟨⟨r,?_,h2⟩⟩
 cases h1 with
 |cons hw' hd h hk=>exact Ev.cons hw hd h hk
 |skip hw' hd hk=>cases hw'
theorem bB{o:Oper}{s:St}(hw:Ci ops s.t o=some false)(hd:lu s.n o.dst=true)(h:WO P k ops l ⟨s.n,DX s.t o.dst wj,s.m⟩ K):WO P k ops (o::l) s K:=
 let ⟨r,h1,h2⟩:=h.h;⟨⟨r,Ev.skip hw hd h1,h2⟩⟩
def HW (P : Program) (ops : Array Oper) (K : St → Prop) : List Oper → St → Prop
  | [], s => K s
  | o :: l, s => (Ci ops s.t o = some true ∧ ∃ v news, Ev P (.op o.op (AF s.t) (Bv s.m)) (.val v (Bv s.m ++ news)) ∧ HW P ops K l ⟨s.n, DX s.t o.dst v, s.m ++ news⟩) ∨
      (Ci ops s.t o = some false ∧ HW P ops K l ⟨s.n, DX s.t o.dst wj, s.m⟩)
structure HO(P:Program)(ops:Array Oper)(l:List Oper)(s:St)(K:St→Prop):Prop where
 h:HW P ops K l s
theorem BJ{s:St}(h:K s):HO P ops [] s K:=⟨h⟩
theorem AH{op:Op}{v:AV}(h:AS P (AF T) (Bv M) op=some v)(_hd:decide (d<N)=true)(hk:HO P ops l ⟨N,upd T d v,M⟩ K):HO P ops (⟨some d,op,ty,pos,af,none⟩::l) ⟨N,T,M⟩ K:=
 ⟨.inl ⟨rfl,v,[],by rw [List.append_nil];exact Ev.val h,by rw [List.append_nil];exact hk.h⟩⟩
theorem Hn{op:Op}{v:AV}{news:Az}(h:DK P (AF T) (Bv M) op=some (v,Bv M++news))(hM:M++news=M')(_hd:decide (d<N)=true)(hk:HO P ops l ⟨N,upd T d v,M'⟩ K):HO P ops (⟨some d,op,ty,pos,af,none⟩::l) ⟨N,T,M⟩ K:=
 ⟨.inl ⟨rfl,v,news,Ev.mem h,by rw [hM];exact hk.h⟩⟩
theorem Hw{op:Op}{v:AV}{news:Az}(h:Ev P (.op op (AF T) (Bv M)) (.val v (Bv M++news)))(hM:M++news=M')(_hd:decide (d<N)=true)(hk:HO P ops l ⟨N,upd T d v,M'⟩ K):HO P ops (⟨some d,op,ty,pos,af,none⟩::l) ⟨N,T,M⟩ K:=
 ⟨.inl ⟨rfl,v,news,h,by rw [hM];exact hk.h⟩⟩
theorem Jg{o:Oper}{s:St}(hw:Ci ops s.t o=some true)(h:HO P ops (⟨o.dst,o.op,o.type,o.pos,o.after,none⟩::l) s K):HO P ops (o::l) s K:=by
 rcases h.h with ⟨_,r⟩ | ⟨h0,_⟩
 ·exact ⟨.inl ⟨hw,r⟩⟩
 ·cases h0
theorem Ws{o:Oper}{s:St}(hw:Ci ops s.t o=some false)(h:HO P ops l ⟨s.n,DX s.t o.dst wj,s.m⟩ K):HO P ops (o::l) s K:=⟨.inr ⟨hw,h.h⟩⟩
theorem HW.line{s0:St}:∀ {l:List Oper} {s:St},HW P ops K l s→s.n=s0.n→ ∃(A:Nat→St) (W:Nat→Bool) (V:Nat→AV) (N:Nat→Az),A 0=s∧(∀i o,l[i]?=some o→Ci ops (A i).t o=some (W i))∧
  (∀i o,l[i]?=some o→W i=true→Ev P (.op o.op (AF (A i).t) (Bv (A i).m)) (.val (V i) (Bv (A i).m++N i)))∧
  (∀i o,l[i]?=some o→A (i+1)=if W i=true then ⟨s0.n,DX (A i).t o.dst (V i),(A i).m++N i⟩ else ⟨s0.n,DX (A i).t o.dst wj,(A i).m⟩)∧K (A l.length)
 |[],s,h,_=>⟨fun _=>s,fun _=>true,fun _=> .c .any,fun _=>[],rfl,fun i o h=>by simp at h,fun i o h=>by simp at h,fun i o h=>by simp at h,h⟩
 |o::l,s,h,hn=>by
  rcases h with ⟨hw,v,news,hv,hr⟩ | ⟨hw,hr⟩
  ·obtain ⟨A,W,V,N,h0,h1,h2,h3,h4⟩:=HW.line (s:=⟨s.n,DX s.t o.dst v,s.m++news⟩) hr hn
   refine ⟨fun i=>match i with | 0=>s | i+1=>A i,fun i=>match i with | 0=>true | i+1=>W i,fun i=>match i with | 0=>v | i+1=>V i,fun i=>match i with | 0=>news | i+1=>N i,rfl,fun i o' h=>?_,fun i o' h hw'=>?_,fun i o' h=>?_,h4⟩
   ·cases i with
    |zero=>simp at h;subst h;exact hw
    |succ i=>exact h1 i o' (by simpa using h)
   ·cases i with
    |zero=>simp at h;subst h;exact hv
    |succ i=>exact h2 i o' (by simpa using h) hw'
   ·cases i with
    |zero=>simp at h;subst h;simp only [if_true];rw [h0,hn]
    |succ i=>exact h3 i o' (by simpa using h)
  ·obtain ⟨A,W,V,N,h0,h1,h2,h3,h4⟩:=HW.line (s:=⟨s.n,DX s.t o.dst wj,s.m⟩) hr hn
   refine ⟨fun i=>match i with | 0=>s | i+1=>A i,fun i=>match i with | 0=>false | i+1=>W i,fun i=>match i with | 0=> .c .any | i+1=>V i,fun i=>match i with | 0=>[] | i+1=>N i,rfl,fun i o' h=>?_,fun i o' h hw'=>?_,fun i o' h=>?_,h4⟩
   ·cases i with
    |zero=>simp at h;subst h;exact hw
    |succ i=>exact h1 i o' (by simpa using h)
   ·cases i with
    |zero=>cases hw'
    |succ i=>exact h2 i o' (by simpa using h) hw'
   ·cases i with
    |zero=>simp at h;subst h;simp only;rw [h0,hn];rfl
    |succ i=>exact h3 i o' (by simpa using h)
theorem B5{id:Nat}{l hl tl:List Oper}{s:St}{Φ:Ex→St→Prop}(n:Nat)(hm:P.follows .mixedOrders=true)(hok:Region.okAll l.toArray n s.n=true)(h1:l.take n=hl)(h2:l.drop n=tl)(hlen:hl.length=n)(h:HO P l.toArray hl s fun s'=>WO P k l.toArray tl s' (Φ .normal)):
  WC P k (.region id l.toArray true) s Φ:=by
 obtain ⟨A,W,V,N',h0,g1,g2,g3,g4⟩:=HW.line (s0:=s) h.h rfl
 obtain ⟨r,h3,h4⟩:=g4.h
 have conv:∀(i:Nat) (o:Oper),i<n→l.toArray[i]?=some o→hl[i]?=some o:=fun i o hi ho=>by
  rw [←h1,List.getElem?_take,if_pos hi];simpa using ho
 exact ⟨⟨.normal,r,Ev.draw n A W V N' hm hok h0 (fun i o hi ho=>g1 i o (conv i o hi ho)) (fun i o hi ho=>g2 i o (conv i o hi ho)) (fun i o hi ho=>g3 i o (conv i o hi ho)) (by rw [hlen] at h3;simpa [h2] using h3),h4⟩⟩
def Jf:List Oper→Nat→Nat→List Oper
 |[],_,_=>[]
 |o::l,0,i0=>{ o with after:=o.after.push ⟨i0,.data⟩ }::l
 |o::l,n+1,i0=>o::Jf l n i0
theorem Tl:∀(l:List Oper) (n i0 j:Nat),(Jf l n i0)[j]?=if j=n then l[j]?.map fun o=>{ o with after:=o.after.push ⟨i0,.data⟩ } else l[j]?
 |[],n,i0,j=>by simp [Jf]
 |o::l,0,i0,0=>by simp [Jf]
 |o::l,0,i0,j+1=>by simp [Jf]
 |o::l,n+1,i0,0=>by simp [Jf]
 |o::l,n+1,i0,j+1=>by simp [Jf,Tl l n i0 j]
theorem Ts(l:List Oper)(n i0:Nat):Bk l.toArray n i0=(Jf l n i0).toArray:=by
 apply Array.ext_getElem?
 intro j
 have e1:(Jf l n i0).toArray[j]?=(Jf l n i0)[j]?:=List.getElem?_toArray
 have e2:l.toArray[j]?=l[j]?:=List.getElem?_toArray
 rw [e1,Tl]
 by_cases h:j=n
 ·subst h
  rw [if_pos rfl]
  cases ho:l[j]? with
  |none=>unfold Bk;rw [e2,ho];simp [ho]
  |some o=>rw [Vj (by rw [e2];exact ho)];rfl
 ·rw [if_neg h,Tb h,e2]
theorem aS{id:Nat}{l hl tl:List Oper}{s:St}{Φ:Ex→St→Prop}{d:Option Tmp}{op:Op}{ty:TypeId}{pos:String}{af:Array Edge}{g:Option (Nat×Bool)}(n i0:Nat)(hm:P.follows .mixedOrders=true)(hc:PR l.toArray n i0=true)(hok:Region.okAll (Jf l n i0).toArray n s.n=true)(h1:l.take n=hl)(h2:l.drop n=⟨d,op,ty,pos,af,g⟩::tl)(hlen:hl.length=n)
  (h:HO P (Jf l n i0).toArray hl s fun s'=>WO P k (Jf l n i0).toArray (⟨d,op,ty,pos,af.push ⟨i0,.data⟩,g⟩::tl) s' (Φ .normal)):WC P k (.region id l.toArray true) s Φ:=by
 obtain ⟨A,W,V,N',h0,g1,g2,g3,g4⟩:=HW.line (s0:=s) h.h rfl
 obtain ⟨r,h3,h4⟩:=g4.h
 have ne:∀i,i<n→(Jf l n i0)[i]?=l[i]?:=fun i hi=>by rw [Tl,if_neg O_]
 have conv:∀(i:Nat) (o:Oper),i<n→(Bk l.toArray n i0)[i]?=some o→hl[i]?=some o:=fun i o hi ho=>by
  rw [Ts,show (Jf l n i0).toArray[i]?=(Jf l n i0)[i]? from List.getElem?_toArray,ne i hi] at ho
  rw [←h1,List.getElem?_take,if_pos hi];exact ho
 have hd:(Jf l n i0).drop n=⟨d,op,ty,pos,af.push ⟨i0,.data⟩,g⟩::tl:=by
  apply List.ext_getElem?
  intro j
  rw [List.getElem?_drop,Tl]
  have e:=congrArg (fun l=>l[j]?) h2
  simp only [List.getElem?_drop] at e
  cases j with
  |zero=>rw [if_pos O_,e];rfl
  |succ j=>rw [if_neg O_,e];rfl
 refine ⟨⟨.normal,r,Ev.late n i0 A W V N' hm hc (by rw [Ts];exact hok) h0 (fun i o hi ho=>?_) (fun i o hi ho=>g2 i o (conv i o hi ho)) (fun i o hi ho=>g3 i o (conv i o hi ho)) ?_,h4⟩⟩
 ·rw [Ts];exact g1 i o (conv i o hi ho)
 ·rw [hlen] at h3
  rw [Ts]
  show Ev P (.ops k (Jf l n i0).toArray ((Jf l n i0).drop n) (A n)) (.out .normal r)
  rw [hd];exact h3
def SW (P : Program) (D : Nat) (K : St → Prop) : List Oper → St → Prop
  | [], s => K s
  | o :: l, s => (Bf o = true ∧ ∃ v m', DK P (AF s.t) s.m o.op = some (v, m') ∧ m'.length = s.m.length ∧ SW P D K l ⟨s.n, s.t, m'⟩) ∨
      (Bf o = false ∧ ∃ v, AS P (AF s.t) (Ie D) o.op = some v ∧ SW P D K l ⟨s.n, DX s.t o.dst v, s.m⟩)
structure DO(P:Program)(D:Nat)(l:List Oper)(s:St)(K:St→Prop):Prop where
 h:SW P D K l s
theorem AJv{D:Nat}{s:St}(h:K s):DO P D [] s K:=⟨h⟩
theorem NN{D:Nat}{op:Op}{v:AV}(h:AS P (AF T) (Ie D) op=some v)(hs:Bf ⟨some d,op,ty,pos,af,none⟩=false)(hk:DO P D l ⟨N,upd T d v,M⟩ K):DO P D (⟨some d,op,ty,pos,af,none⟩::l) ⟨N,T,M⟩ K:=
 ⟨.inr ⟨hs,v,h,hk.h⟩⟩
theorem AB8{D:Nat}{t:TypeId}{a v:Operand}{b o:Nat}{x z:Arr}{c:Cell}(ha:AF T a= .c (.ptr b o))(hv:AF T v= .c c)(hm:M[b]?=some (.row true x))(h1:c.one=true)(hs:EM P t=some 1)(ho:o<x.size)(hz:x.set o c=some z)(hM:M.set b (.row true z)=M')
  (hk:DO P D l ⟨N,T,M'⟩ K):DO P D (⟨none,.store t a v,ty,pos,af,none⟩::l) ⟨N,T,M⟩ K:=
 ⟨.inl ⟨rfl,.c .any,M',by simp [DK,LH,ha,hv,hm,h1,hs,ho,hz,hM],by rw [←hM];simp,hk.h⟩⟩
theorem lW {D : Nat} {t : TypeId} {a v : Operand} {b o : Nat} {x : AA 8} {w : BitVec 8} (ha : AF T a = .c (.ptr b o)) (hv : AF T v = .c (.val (U8 w))) (hm : M[b]? = some (.row true (.a8 x))) (hs : EM P t = some 1) (ho : o < x.length) (hM : M.set b (.row true (.a8 (put x o w))) = M')
    (hk : DO P D l ⟨N, T, M'⟩ K) : DO P D (⟨none, .store t a v, ty, pos, af, none⟩ :: l) ⟨N, T, M⟩ K := AB8 ha hv hm rfl hs ho (AI3 x o w) hM hk
theorem SW.line{s0:St}{D:Nat}:∀ {l:List Oper} {s:St},SW P D K l s→s.n=s0.n→ ∃(A:Nat→St) (V:Nat→AV),A 0=s∧
  (∀i o,l[i]?=some o→Bf o=false→AS P (AF (A i).t) (Ie D) o.op=some (V i)∧A (i+1)=⟨s0.n,DX (A i).t o.dst (V i),(A i).m⟩)∧
  (∀i o,l[i]?=some o→Bf o=true→ ∃v m',DK P (AF (A i).t) (A i).m o.op=some (v,m')∧m'.length=(A i).m.length∧A (i+1)=⟨s0.n,(A i).t,m'⟩)∧K (A l.length)
 |[],s,h,_=>⟨fun _=>s,fun _=> .c .any,rfl,fun i o h=>by simp at h,fun i o h=>by simp at h,h⟩
 |o::l,s,h,hn=>by
  rcases h with ⟨hs,v,m',hv,hl,hr⟩ | ⟨hs,v,hv,hr⟩
  ·obtain ⟨A,V,h0,h1,h2,h3⟩:=SW.line (s:=⟨s.n,s.t,m'⟩) hr hn
   refine ⟨fun i=>match i with | 0=>s | i+1=>A i,fun i=>match i with | 0=> .c .any | i+1=>V i,rfl,fun i o' h hs'=>?_,fun i o' h hs'=>?_,h3⟩
   ·cases i with
    |zero=>simp at h;subst h;rw [hs] at hs';cases hs'
    |succ i=>exact h1 i o' (by simpa using h) hs'
   ·cases i with
    |zero=>simp at h;subst h;exact ⟨v,m',hv,hl,by simp only;rw [h0,hn]⟩
    |succ i=>exact h2 i o' (by simpa using h) hs'
  ·obtain ⟨A,V,h0,h1,h2,h3⟩:=SW.line (s:=⟨s.n,DX s.t o.dst v,s.m⟩) hr hn
   refine ⟨fun i=>match i with | 0=>s | i+1=>A i,fun i=>match i with | 0=>v | i+1=>V i,rfl,fun i o' h hs'=>?_,fun i o' h hs'=>?_,h3⟩
   ·cases i with
    |zero=>simp at h;subst h;exact ⟨hv,by simp only;rw [h0,hn]⟩
    |succ i=>exact h1 i o' (by simpa using h) hs'
   ·cases i with
    |zero=>simp at h;subst h;rw [hs] at hs';cases hs'
    |succ i=>exact h2 i o' (by simpa using h) hs'
theorem ABQ{id:Nat}{l:List Oper}{s:St}{Φ:Ex→St→Prop}(hm:P.follows .mixedOrders=true)(hok:Region.okStores l.toArray s.n=true)(h:DO P s.m.length l s (Φ .normal)):WC P k (.region id l.toArray true) s Φ:=by
 obtain ⟨A,V,h0,h1,h2,h3⟩:=SW.line (s0:=s) h.h rfl
 exact ⟨⟨.normal,_,Ev.stores A V hm hok h0 (fun i o ho=>h1 i o (by simpa using ho)) (fun i o ho=>h2 i o (by simpa using ho)),by simpa using h3⟩⟩
def kill(S:List Nat):Nat→Az→Az
 |_,[]=>[]
 |i,r::m=>(if S.contains i then .dead else r)::kill S (i+1) m
theorem Nh(S:List Nat):∀(m:Az) (i:Nat),(kill S i m).length=m.length
 |[],_=>rfl
 |_::m,i=>by rw [kill,List.length_cons,List.length_cons,Nh S m]
theorem aD(S:List Nat):∀(m:Az) (i b:Nat) (own:Bool) (x:Arr),(kill S i m)[b]?=some (.row own x)→S.contains (i+b)=false∧m[b]?=some (.row own x)
 |[],_,b,own,x,h=>by simp [kill] at h
 |r::m,i,0,own,x,h=>by
  simp only [kill,List.getElem?_cons_zero,Option.some.injEq] at h
  split at h
  ·cases h
  ·rename_i hc
   exact ⟨by rw [Nat.add_zero];exact Bool.eq_false_iff.2 hc,by rw [h];rfl⟩
 |r::m,i,b+1,own,x,h=>by
  rw [kill,List.getElem?_cons_succ] at h
  have:=aD S m (i+1) b own x h
  rw [show i+(b+1)=i+1+b by omega,List.getElem?_cons_succ]
  exact this
def fl(S:List Nat)(m0 m:Az):Prop:=m.length=m0.length∧ ∀b,S.contains b=false→m[b]?=m0[b]?
theorem fl.R{S:List Nat}{m0 m:Az}(h:fl S m0 m){ι:Emb}{w:World}(hR:R ι m w):R ι (kill S 0 m0) w:=by
 have get:∀ {b:Nat} {own:Bool} {x:Arr},(kill S 0 m0)[b]?=some (.row own x)→m[b]?=some (.row own x):=fun {b own x} hb=>by
  obtain ⟨h1,h2⟩:=aD S m0 0 b own x hb
  rw [Nat.zero_add] at h1
  rw [h.2 b h1];exact h2
 exact ⟨fun b hb=>hR.dom b (by rw [h.1];rwa [Nh] at hb),fun b l own x hb hm=>hR.rows b l own x hb (get hm),fun b b' l l' own own' x x' hne hb hb' hm hm' ho=>hR.inj b b' l l' own own' x x' hne hb hb' (get hm) (get hm') ho,fun c Φ hc=>⟨(hR.stay c Φ (hc.to _)).1,fun b l x hb hm=>(hR.stay c Φ (hc.to _)).2 b l x hb (get hm)⟩⟩
def SX (P : Program) (S : List Nat) (M0 : Az) (ops : Array Oper) (K : St → Prop) : Nat → List Oper → St → Prop
  | _, [], s => K s
  | i, o :: l, s => (Bf o = true ∧ ∃ v m', DK P (AF s.t) s.m o.op = some (v, m') ∧ m'.length = s.m.length ∧ (∀ b, S.contains b = false → m'[b]? = s.m[b]?) ∧ SX P S M0 ops K (i + 1) l ⟨s.n, s.t, m'⟩) ∨
      (Bf o = false ∧ ∃ v, (AS P (AF s.t) (kill S 0 M0) o.op = some v ∨ (early ops i = true ∧ Ev P (.op o.op (AF s.t) M0) (.val v M0))) ∧ SX P S M0 ops K (i + 1) l ⟨s.n, DX s.t o.dst v, s.m⟩)
structure XO(P:Program)(S:List Nat)(M0:Az)(ops:Array Oper)(i:Nat)(l:List Oper)(s:St)(K:St→Prop):Prop where
 h:SX P S M0 ops K i l s
section
variable {S:List Nat} {i:Nat} {M0:Az} {ops:Array Oper}
theorem Ye{s:St}(h:K s):XO P S M0 ops i [] s K:=⟨h⟩
theorem Df{op:Op}{v:AV}(h:AS P (AF T) (kill S 0 M0) op=some v)(hs:Bf ⟨some d,op,ty,pos,af,none⟩=false)(hk:XO P S M0 ops (i+1) l ⟨N,upd T d v,M⟩ K):XO P S M0 ops i (⟨some d,op,ty,pos,af,none⟩::l) ⟨N,T,M⟩ K:=
 ⟨.inr ⟨hs,v,.inl h,hk.h⟩⟩
theorem F3{op:Op}{v:AV}(he:early ops i=true)(h:AS P (AF T) M0 op=some v)(hs:Bf ⟨some d,op,ty,pos,af,none⟩=false)(hk:XO P S M0 ops (i+1) l ⟨N,upd T d v,M⟩ K):XO P S M0 ops i (⟨some d,op,ty,pos,af,none⟩::l) ⟨N,T,M⟩ K:=
 ⟨.inr ⟨hs,v,.inr ⟨he,.val h⟩,hk.h⟩⟩
theorem XE{op:Op}{v:AV}(he:early ops i=true)(h:Ev P (.op op (AF T) M0) (.val v (M0++[])))(hs:Bf ⟨some d,op,ty,pos,af,none⟩=false)(hk:XO P S M0 ops (i+1) l ⟨N,upd T d v,M⟩ K):XO P S M0 ops i (⟨some d,op,ty,pos,af,none⟩::l) ⟨N,T,M⟩ K:=
 ⟨.inr ⟨hs,v,.inr ⟨he,by rwa [List.append_nil] at h⟩,hk.h⟩⟩
theorem qz{b:Nat}{r:Row}(hb:S.contains b=true)(hM:M.set b r=M'):∀c,S.contains c=false→M'[c]?=M[c]?:=fun c hc=>by
 have hne:b≠c:=fun e=>by rw [e,hc] at hb;cases hb
 rw [←hM,List.getElem?_set_ne hne]
theorem rC{t:TypeId}{a v:Operand}{b o:Nat}{x z:Arr}{c:Cell}(hb:S.contains b=true)(ha:AF T a= .c (.ptr b o))(hv:AF T v= .c c)(hm:M[b]?=some (.row true x))(h1:c.one=true)(hs:EM P t=some 1)(ho:o<x.size)(hz:x.set o c=some z)(hM:M.set b (.row true z)=M')
  (hk:XO P S M0 ops (i+1) l ⟨N,T,M'⟩ K):XO P S M0 ops i (⟨none,.store t a v,ty,pos,af,none⟩::l) ⟨N,T,M⟩ K:=
 ⟨.inl ⟨rfl,.c .any,M',by simp [DK,LH,ha,hv,hm,h1,hs,ho,hz,hM],by rw [←hM];simp,qz hb hM,hk.h⟩⟩
theorem wa {t : TypeId} {a v : Operand} {b o : Nat} {x : AA 64} {w : BitVec 64} (hb : S.contains b = true) (ha : AF T a = .c (.ptr b o)) (hv : AF T v = .c (.val (Bp w))) (hm : M[b]? = some (.row true (.a64 x))) (hs : EM P t = some 1) (ho : o < x.length) (hM : M.set b (.row true (.a64 (put x o w))) = M')
    (hk : XO P S M0 ops (i + 1) l ⟨N, T, M'⟩ K) : XO P S M0 ops i (⟨none, .store t a v, ty, pos, af, none⟩ :: l) ⟨N, T, M⟩ K := rC hb ha hv hm rfl hs ho (ADe x o w) hM hk
theorem ABL{t:TypeId}{a v:Operand}{b:Nat}{x y:Arr}(hb:S.contains b=true)(ha:AF T a= .c (.ptr b 0))(hv:AF T v= .agg y)(hm:M[b]?=some (.row true x))(h1:y.one=true){n:Nat}(hs:EM P t=some n)(hy:y.size=n)(hx:x.size=n)(hM:M.set b (.row true y)=M')
  (hk:XO P S M0 ops (i+1) l ⟨N,T,M'⟩ K) (hxm:x.isMap=false:=by rfl):XO P S M0 ops i (⟨none,.store t a v,ty,pos,af,none⟩::l) ⟨N,T,M⟩ K:=
 ⟨.inl ⟨rfl,.c .any,M',by simp [DK,LH,ha,hv,hm,h1,hs,hx,hy,hM,hxm],by rw [←hM];simp,qz hb hM,hk.h⟩⟩
theorem SX.line{s0:St}:∀ {l:List Oper} {i:Nat} {s:St},SX P S M0 ops K i l s→s.n=s0.n→fl S M0 s.m→ ∃(A:Nat→St) (V:Nat→AV) (E:Nat→Bool),A 0=s∧(∀c,c≤l.length→fl S M0 (A c).m)∧
  (∀j o,l[j]?=some o→Bf o=false→E j=false→AS P (AF (A j).t) (kill S 0 M0) o.op=some (V j))∧
  (∀j o,l[j]?=some o→Bf o=false→E j=true→Ev P (.op o.op (AF (A j).t) M0) (.val (V j) M0))∧
  (∀j o,l[j]?=some o→Bf o=false→(E j=true→early ops (i+j)=true)∧A (j+1)=⟨s0.n,DX (A j).t o.dst (V j),(A j).m⟩)∧
  (∀j o,l[j]?=some o→Bf o=true→ ∃v m',DK P (AF (A j).t) (A j).m o.op=some (v,m')∧m'.length=(A j).m.length∧A (j+1)=⟨s0.n,(A j).t,m'⟩)∧K (A l.length)
 |[],i,s,h,_,ha=>⟨fun _=>s,fun _=> .c .any,fun _=>false,rfl,fun _ _=>ha,fun j o h=>by simp at h,fun j o h=>by simp at h,fun j o h=>by simp at h,fun j o h=>by simp at h,h⟩
 |o::l,i,s,h,hn,ha=>by
  rcases h with ⟨hs,v,m',hv,hl,hag,hr⟩ | ⟨hs,v,hv,hr⟩
  ·obtain ⟨A,V,E,h0,hc,h1,h1',h1'',h2,h3⟩:=SX.line (s:=⟨s.n,s.t,m'⟩) hr hn ⟨by rw [hl];exact ha.1,fun b hb=>by rw [hag b hb];exact ha.2 b hb⟩
   refine ⟨fun i=>match i with | 0=>s | i+1=>A i,fun i=>match i with | 0=> .c .any | i+1=>V i,fun i=>match i with | 0=>false | i+1=>E i,rfl,fun c hcl=>?_,fun j o' h hs'=>?_,fun j o' h hs'=>?_,fun j o' h hs'=>?_,fun j o' h hs'=>?_,h3⟩
   ·cases c with
    |zero=>exact ha
    |succ c=>exact hc c (by simpa using hcl)
   ·cases j with
    |zero=>simp at h;subst h;rw [hs] at hs';cases hs'
    |succ j=>exact h1 j o' (by simpa using h) hs'
   ·cases j with
    |zero=>simp at h;subst h;rw [hs] at hs';cases hs'
    |succ j=>exact h1' j o' (by simpa using h) hs'
   ·cases j with
    |zero=>simp at h;subst h;rw [hs] at hs';cases hs'
    |succ j=>rw [show i+(j+1)=i+1+j by omega];exact h1'' j o' (by simpa using h) hs'
   ·cases j with
    |zero=>simp at h;subst h;exact ⟨v,m',hv,hl,by simp only;rw [h0,hn]⟩
    |succ j=>exact h2 j o' (by simpa using h) hs'
  ·obtain ⟨A,V,E,h0,hc,h1,h1',h1'',h2,h3⟩:=SX.line (s:=⟨s.n,DX s.t o.dst v,s.m⟩) hr hn ha
   have hE:∃e:Bool,(e=false→AS P (AF s.t) (kill S 0 M0) o.op=some v)∧(e=true→early ops i=true∧Ev P (.op o.op (AF s.t) M0) (.val v M0)):=by
    rcases hv with hv | hv
    ·exact ⟨false,fun _=>hv,(fun h=>by cases h)⟩
    ·exact ⟨true,(fun h=>by cases h),fun _=>hv⟩
   obtain ⟨e,he1,he2⟩:=hE
   refine ⟨fun i=>match i with | 0=>s | i+1=>A i,fun i=>match i with | 0=>v | i+1=>V i,fun i=>match i with | 0=>e | i+1=>E i,rfl,fun c hcl=>?_,fun j o' h hs'=>?_,fun j o' h hs'=>?_,fun j o' h hs'=>?_,fun j o' h hs'=>?_,h3⟩
   ·cases c with
    |zero=>exact ha
    |succ c=>exact hc c (by simpa using hcl)
   ·cases j with
    |zero=>simp at h;subst h;exact he1
    |succ j=>exact h1 j o' (by simpa using h) hs'
   ·cases j with
    |zero=>simp at h;subst h;exact fun h=>(he2 h).2
    |succ j=>exact h1' j o' (by simpa using h) hs'
   ·cases j with
    |zero=>simp at h;subst h;exact ⟨fun h=>(he2 h).1,by simp only;rw [h0,hn]⟩
    |succ j=>rw [show i+(j+1)=i+1+j by omega];exact h1'' j o' (by simpa using h) hs'
   ·cases j with
    |zero=>simp at h;subst h;rw [hs] at hs';cases hs'
    |succ j=>exact h2 j o' (by simpa using h) hs'
end
theorem JF{id:Nat}{l:List Oper}{s:St}{Φ:Ex→St→Prop}(S:List Nat)(hm:P.follows .mixedOrders=true)(hok:Region.okStores l.toArray s.n=true)(h:XO P S s.m l.toArray 0 l s (Φ .normal)):WC P k (.region id l.toArray true) s Φ:=by
 obtain ⟨A,V,E,h0,hc,h1,h1',h1'',h2,h3⟩:=SX.line (s0:=s) h.h rfl ⟨rfl,fun _ _=>rfl⟩
 exact ⟨⟨.normal,_,Ev.stores2 A V E hm hok h0 (fun i o ho hs he=>⟨_,fun c hcl ι w hR=>(hc c (by simpa using hcl)).R hR,h1 i o (by simpa using ho) hs he⟩) (fun i o ho=>h1' i o (by simpa using ho)) (fun i o ho=>by have:=h1'' i o (by simpa using ho);rw [Nat.zero_add] at this;exact this) (fun i o ho=>h2 i o (by simpa using ho)),by simpa using h3⟩⟩
theorem wt{x:Operand}{v:AV}(h:AF T x=v):AS P (AF T) M (.move x)=some v:=by rw [←h];rfl
theorem Ao{x:Operand}{v:Cell}(h:AF T x= .c v):AS P (AF T) M (.move x)=some ((.c v)):=
 wt h
theorem MW{x:Operand}{v:List AV}(h:AF T x= .tup v):AS P (AF T) M (.move x)=some ((.tup v)):=
 wt h
theorem yW{x:Operand}{v:AV}(h:AF T x=v):AS P (AF T) M (.assign x)=some (v):=
 (by rw [←h];rfl)
theorem A6{x:Operand}{v:Cell}(h:AF T x= .c v):AS P (AF T) M (.assign x)=some ((.c v)):=
 yW h
theorem AFO{op:BinOp}{t:TypeId}{x y:Operand}{a b c:Value}(h:binOp op t a b=(pure c:Sem Value))(hg:eqGuard op t x y a b=(pure ():Sem Unit)):bin op t x y a b=(pure c:Sem Value):=by
 unfold bin;rw [hg,h];rfl
theorem wD{op:BinOp}{t:TypeId}{x y:Operand}{a b c:Value}(hb:∀p,a≠ .bool p)(h:bin op t x y a b=(pure c:Sem Value)):L7 P op t x y (.c (.val a)) (.c (.val b))=some (.c (.val c)):=by
 unfold L7
 simp only
 split
 ·rename_i p q;exact absurd rfl (hb p)
 ·rename_i p q;exact absurd rfl (hb p)
 ·rw [h];rfl
theorem CG{op:BinOp}{t t':TypeId}{x y:Operand}{ka kb:IntKind}{a b:Int}{c:Value}(hx:AF T x= .c (.val (.int ka a)))(hy:AF T y= .c (.val (.int kb b)))(h:binOp op t (.int ka a) (.int kb b)=(pure c:Sem Value)):AS P (AF T) M (.binOp op t x y t')=some ((.c (.val c))):=
 (by
  show L7 P op t x y (AF T x) (AF T y)=_
  rw [hx,hy]
  refine wD (fun p h=>by cases h) (AFO h ?_)
  unfold eqGuard
  cases op<;>rfl)
theorem AEw{t n el:Nat}{x i:Operand}{b o sz:Nat}{kd:IntKind}{j:Nat}(hx:AF T x= .c (.ptr b o))(hi:AF T i= .c (.val (.int kd (j:Int))))(hu:P.underlying t=some (.array n el))(hs:EM P el=some sz)(h0:j<n):AS P (AF T) M (.indexAddr t x i)=some ((.c (.ptr b (o+j*sz)))):=
 (by
  show JN P t (AF T x) (AF T i)=_
  rw [hx,hi]
  have h1:(0:Int)≤(j:Int)∧(j:Int)<(n:Int):=by omega
  simp only [JN,hu,HD,hs,h1,and_self,if_true,Int.toNat_natCast])
theorem AN{t n el:Nat}{x i:Operand}{b:Nat}{kd:IntKind}{j:Nat}(hx:AF T x= .c (.ptr b 0))(hi:AF T i= .c (.val (.int kd (j:Int))))(hu:P.underlying t=some (.array n el))(hs:EM P el=some 1)(h0:j<n):AS P (AF T) M (.indexAddr t x i)=some ((.c (.ptr b j))):=
 (AEw hx hi hu hs h0).trans (by rw [Nat.zero_add,Nat.mul_one])
theorem js{t el:Nat}{x i:Operand}{b o len cap sz:Nat}{kd:IntKind}{j:Nat}(hx:AF T x= .c (.sl b o len cap sz))(hi:AF T i= .c (.val (.int kd (j:Int))))(hu:P.underlying t=some (.slice el))(hs:EM P el=some sz)(h0:j<len):AS P (AF T) M (.indexAddr t x i)=some ((.c (.ptr b (o+j*sz)))):=
 (by
  show JN P t (AF T x) (AF T i)=_
  rw [hx,hi]
  have h1:(0:Int)≤(j:Int)∧(j:Int)<(len:Int):=by omega
  simp only [JN,hu,HD,hs,h1,and_self,if_true,Int.toNat_natCast])
theorem F1{t el:Nat}{x i:Operand}{b len cap:Nat}{kd:IntKind}{j:Nat}(hx:AF T x= .c (.sl b 0 len cap 1))(hi:AF T i= .c (.val (.int kd (j:Int))))(hu:P.underlying t=some (.slice el))(hs:EM P el=some 1)(h0:j<len):AS P (AF T) M (.indexAddr t x i)=some ((.c (.ptr b j))):=
 (js hx hi hu hs h0).trans (by rw [Nat.zero_add,Nat.mul_one])
theorem P8{t el:Nat}{x i:Operand}{b o len cap:Nat}{kd:IntKind}{j:Nat}(hx:AF T x= .c (.sl b o len cap 1))(hi:AF T i= .c (.val (.int kd (j:Int))))(hu:P.underlying t=some (.slice el))(hs:EM P el=some 1)(h0:j<len):AS P (AF T) M (.indexAddr t x i)=some ((.c (.ptr b (o+j)))):=
 (js hx hi hu hs h0).trans (by rw [Nat.mul_one])
theorem DR{t:TypeId}{a:Operand}{b o:Nat}{own:Bool}{x:Arr}{c:Cell}(ha:AF T a= .c (.ptr b o))(hm:M[b]?=some (.row own x))(hr:BX P t=some false)(ho:o<x.size)(hg:x.get o=c):AS P (AF T) M (.load t a)=some ((.c c)):=
 (by
  simp only [AS,ha,hm,G4,hr,ho,if_true,hg])
theorem ZF{t:TypeId}{a:Operand}{b o:Nat}{own:Bool}{x:AA 8}(ha:AF T a= .c (.ptr b o))(hm:M[b]?=some (.row own (.a8 x)))(hr:BX P t=some false)(ho:o<x.length):AS P (AF T) M (.load t a)=some ((.c (.val (U8 (nth x o))))):=
 DR ha hm hr ho rfl
theorem Vf{t:TypeId}{a:Operand}{b o:Nat}{own:Bool}{x:AA 32}(ha:AF T a= .c (.ptr b o))(hm:M[b]?=some (.row own (.a32 x)))(hr:BX P t=some false)(ho:o<x.length):AS P (AF T) M (.load t a)=some ((.c (.val (EQ (nth x o))))):=
 DR ha hm hr ho rfl
theorem GS{t:TypeId}{a:Operand}{b o:Nat}{own:Bool}{x:AA 64}(ha:AF T a= .c (.ptr b o))(hm:M[b]?=some (.row own (.a64 x)))(hr:BX P t=some false)(ho:o<x.length):AS P (AF T) M (.load t a)=some ((.c (.val (Bp (nth x o))))):=
 DR ha hm hr ho rfl
theorem Th{t:TypeId}{a:Operand}{b o:Nat}{own:Bool}{x:List (Int)}(ha:AF T a= .c (.ptr b o))(hm:M[b]?=some (.row own (.ai x)))(hr:BX P t=some false)(ho:o<x.length):AS P (AF T) M (.load t a)=some ((.c (.val (.int .i64 (DU x o))))):=
 DR ha hm hr ho rfl
theorem A9{t:TypeId}{a:Operand}{b n:Nat}{own:Bool}{x:Arr}(ha:AF T a= .c (.ptr b 0))(hm:M[b]?=some (.row own x))(hr:BX P t=some true)(hs:EM P t=some n)(hx:x.size=n)(h0:0<n):AS P (AF T) M (.load t a)=some ((.agg x)):=
 (by
  simp [AS,ha,hm,G4,hr,hs,hx,h0,H2])
theorem Zo{t:TypeId}{a v:Operand}{b o:Nat}{x z:Arr}{c:Cell}(ha:AF T a= .c (.ptr b o))(hv:AF T v= .c c)(hm:M[b]?=some (.row true x))(h1:c.one=true)(hs:EM P t=some 1)(ho:o<x.size)(hz:x.set o c=some z)(hM:M.set b (.row true z)=M')
  (hk:WO P k ops l ⟨N,T,M'⟩ K):WO P k ops (⟨none,.store t a v,ty,pos,af,none⟩::l) ⟨N,T,M⟩ K:=
 AAC (v:= .c .any) (by
  simp [DK,LH,ha,hv,hm,h1,hs,ho,hz,hM]) hk
theorem Bs{t:TypeId}{a v:Operand}{b:Nat}{x y:Arr}(ha:AF T a= .c (.ptr b 0))(hv:AF T v= .agg y)(hm:M[b]?=some (.row true x))(h1:y.one=true){n:Nat}(hs:EM P t=some n)(hy:y.size=n)(hx:x.size=n)(hM:M.set b (.row true y)=M')
  (hk:WO P k ops l ⟨N,T,M'⟩ K) (hxm:x.isMap=false:=by rfl):WO P k ops (⟨none,.store t a v,ty,pos,af,none⟩::l) ⟨N,T,M⟩ K:=
 AAC (v:= .c .any) (by
  simp [DK,LH,ha,hv,hm,h1,hs,hx,hy,hM,hxm]) hk
theorem cD {t : TypeId} {a v : Operand} {b o : Nat} {x : AA 8} {w : BitVec 8} (ha : AF T a = .c (.ptr b o)) (hv : AF T v = .c (.val (U8 w))) (hm : M[b]? = some (.row true (.a8 x))) (hs : EM P t = some 1) (ho : o < x.length) (hM : M.set b (.row true (.a8 (put x o w))) = M')
    (hk : WO P k ops l ⟨N, T, M'⟩ K) : WO P k ops (⟨none, .store t a v, ty, pos, af, none⟩ :: l) ⟨N, T, M⟩ K := Zo ha hv hm rfl hs ho (AI3 x o w) hM hk
theorem PK {t : TypeId} {a v : Operand} {b o : Nat} {x : AA 32} {w : BitVec 32} (ha : AF T a = .c (.ptr b o)) (hv : AF T v = .c (.val (EQ w))) (hm : M[b]? = some (.row true (.a32 x))) (hs : EM P t = some 1) (ho : o < x.length) (hM : M.set b (.row true (.a32 (put x o w))) = M')
    (hk : WO P k ops l ⟨N, T, M'⟩ K) : WO P k ops (⟨none, .store t a v, ty, pos, af, none⟩ :: l) ⟨N, T, M⟩ K := Zo ha hv hm rfl hs ho (AKC x o w) hM hk
theorem fB {t : TypeId} {a v : Operand} {b o : Nat} {x : AA 64} {w : BitVec 64} (ha : AF T a = .c (.ptr b o)) (hv : AF T v = .c (.val (Bp w))) (hm : M[b]? = some (.row true (.a64 x))) (hs : EM P t = some 1) (ho : o < x.length) (hM : M.set b (.row true (.a64 (put x o w))) = M')
    (hk : WO P k ops l ⟨N, T, M'⟩ K) : WO P k ops (⟨none, .store t a v, ty, pos, af, none⟩ :: l) ⟨N, T, M⟩ K := Zo ha hv hm rfl hs ho (ADe x o w) hM hk
theorem Ay{t:TypeId}{x:Arr}{n:Nat}(hz:∀m,C1 P m t=some (.c (.ptr m.length 0),m++[.row true x]))(hn:M.length=n):DK P (AF T) M (.alloc t)=some (.c (.ptr n 0),M++[.row true x]):=by subst hn;exact hz M
theorem Sw{t:TypeId}{v:Operand}{x:Arr}{n:Nat}(hv:Ww (AF T v)=some x)(hn:M.length=n):DK P (AF T) M (.box t v)=some (.c (.ptr n 0),M++[.row true x]):=by
 show qu M (AF T v)=_
 subst hn
 simp only [qu,hv,Option.map_some]
theorem F9{s t:TypeId}{x:Operand}{k1 k2:IntKind}{a b:Int}{ds:TypeDesc}(hx:AF T x= .c (.val (.int k1 a)))(hs:P.underlying s=some ds)(ht:P.underlying t=some (.int k2))(h:k2.wrap a=b):AS P (AF T) M (.convert s t x)=some (.c (.val (.int k2 b))):=by
 show iU P s t (AF T x)=_
 rw [hx]
 simp only [iU,hs,ht,h]
theorem Bj{x:Operand}{i:Nat}{vs:List AV}{v:AV}(hx:AF T x= .tup vs)(hi:vs[i]?=some v):AS P (AF T) M (.extract x i)=some (v):=
 (by
  simp only [AS,hx,hi])
end
end Go.Proofs.YtmbepikkgkcgkaaGreatDoor
