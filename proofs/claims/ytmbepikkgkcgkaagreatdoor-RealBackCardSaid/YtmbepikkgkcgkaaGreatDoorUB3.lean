/- Merged and shortened by a program: part 3. -/
import Derived.Test.YtmbepikkgkcgkaaGreatDoorUB2
set_option maxRecDepth 100000
set_option maxHeartbeats 8000000
namespace Go.Proofs.YtmbepikkgkcgkaaGreatDoor
open Go.RowKit
variable {g r : Prop}
open Go.Proofs.Tryz
def Emb.upto(c:Nat)(ι:Emb):Emb:=⟨fun b=>if b<c then ι b else none,ι.tx⟩
theorem U6(c:Nat)(ι:Emb):(ι.upto c).le ι:=by
 refine ⟨fun b l h=>?_,fun _ _ _ h=>h⟩
 unfold Emb.upto at h
 dsimp only at h
 split at h
 ·exact h
 ·cases h
theorem Xo{c:Nat}{ι ι':Emb}(h:ι.le ι'):(ι.upto c).le (ι'.upto c):=by
 refine ⟨fun b l hb=>?_,h.tx⟩
 unfold Emb.upto at hb ⊢
 dsimp only at hb ⊢
 split at hb
 ·rename_i hc;rw [if_pos hc];exact h.f b l hb
 ·cases hb
theorem jQ{c c':Nat}(ι:Emb)(h:c≤c'):(ι.upto c).le (ι.upto c'):=by
 refine ⟨fun b l hb=>?_,fun _ _ _ h=>h⟩
 unfold Emb.upto at hb ⊢
 dsimp only at hb ⊢
 split at hb
 ·rw [if_pos O_];exact hb
 ·cases hb
theorem FW{m:Ak}{b:Nat}{own:Bool}{x:Arr}(h:(BZ m)[b]?=some (.row own x)):own=false∧ ∃o,m[b]?=some (.row o x):=by
 unfold BZ at h
 rw [List.getElem?_map] at h
 obtain ⟨r,hr,e⟩:=Option.map_eq_some_iff.1 h
 cases r with
 |dead=>cases e
 |row o y=>cases e;exact ⟨rfl,o,hr⟩
theorem B8(m:Ak):(BZ m).length=m.length:=by simp [BZ]
structure It(ops:Array Oper)(n:Nat)(A:Nat→St)(W:Nat→Bool)(V:Nat→AV)(N:Nat→Ak)(N0:Nat):Prop where
 hn:n≤ops.size
 h0:(A 0).n=N0
 step:∀i o,i<n→ops[i]?=some o→A (i+1)=if W i=true then ⟨N0,Ce (A i).t o.dst (V i),(A i).m++N i⟩ else ⟨N0,Ce (A i).t o.dst mQ,(A i).m⟩
section
variable {ops:Array Oper} {n:Nat} {A:Nat→St} {W:Nat→Bool} {V:Nat→AV} {N:Nat→Ak} {N0:Nat}
theorem It.at(h:It ops n A W V N N0){i:Nat}(hi:i<n):∃o,ops[i]?=some o:=⟨ops[i]'(by have:=h.hn;omega),Array.getElem?_eq_getElem _⟩
theorem It.mem1(h:It ops n A W V N N0){i:Nat}(hi:i<n):(A i).m.length≤(A (i+1)).m.length∧ ∀b,b<(A i).m.length→(A (i+1)).m[b]?=(A i).m[b]?:=by
 obtain ⟨o,ho⟩:=h.at hi
 rw [h.step i o hi ho]
 split
 ·exact ⟨by simp,fun b hb=>List.getElem?_append_left hb⟩
 ·exact ⟨Nat.le_refl _,fun b _=>rfl⟩
theorem It.mem(h:It ops n A W V N N0){i:Nat}:∀d,i+d≤n→(A i).m.length≤(A (i+d)).m.length∧ ∀b,b<(A i).m.length→(A (i+d)).m[b]?=(A i).m[b]?
 |0,_=>⟨Nat.le_refl _,fun _ _=>rfl⟩
 |d+1,hd=>by
  obtain ⟨h1,h2⟩:=It.mem h (i:=i) d O_
  obtain ⟨h3,h4⟩:=h.mem1 (i:=i+d) O_
  exact ⟨Nat.le_trans h1 h3,fun b hb=>by rw [show i+(d+1)=i+d+1 by omega,h4 b O_,h2 b hb]⟩
theorem It.len(h:It ops n A W V N N0){i j:Nat}(hij:i≤j)(hj:j≤n):(A i).m.length≤(A j).m.length:=by
 have:=(h.mem (i:=i) (j-i) O_).1
 rwa [show i+(j-i)=j by omega] at this
theorem It.row(h:It ops n A W V N N0){i j b:Nat}(hij:i≤j)(hj:j≤n)(hb:b<(A i).m.length):(A j).m[b]?=(A i).m[b]?:=by
 have:=(h.mem (i:=i) (j-i) O_).2 b hb
 rwa [show i+(j-i)=j by omega] at this
theorem It.tmp1(h:It ops n A W V N N0){i:Nat}(hi:i<n){t:Nat}(ht:BL ops i≠some t):(A (i+1)).t t=(A i).t t:=by
 obtain ⟨o,ho⟩:=h.at hi
 have hd:BL ops i=o.dst:=by simp [BL,ho]
 rw [hd] at ht
 rw [h.step i o hi ho]
 have key:∀v,Ce (A i).t o.dst v t=(A i).t t:=by
  intro v
  cases hdd:o.dst with
  |none=>rfl
  |some d=>
   rw [hdd] at ht
   exact upd_ne _ _ (fun e=>ht (by rw [e]))
 split
 ·exact key _
 ·exact key _
theorem It.tmp(h:It ops n A W V N N0){i t:Nat}:∀d,i+d≤n→(∀j,i≤j→j<i+d→BL ops j≠some t)→(A (i+d)).t t=(A i).t t
 |0,_,_=>rfl
 |d+1,hd,hno=>by
  rw [show i+(d+1)=i+d+1 by omega,h.tmp1 O_ (hno _ O_ O_),It.tmp h d O_ fun j h1 h2=>hno j h1 O_]
theorem It.slot(h:It ops n A W V N N0){i j t:Nat}(hij:i≤j)(hj:j≤n)(hno:∀l,i≤l→l<j→BL ops l≠some t):(A j).t t=(A i).t t:=by
 have:=h.tmp (i:=i) (t:=t) (j-i) O_ (fun l h1 h2=>hno l h1 O_)
 rwa [show i+(j-i)=j by omega] at this
def iu(n:Nat)(A:Nat→St)(ι:Emb)(w:World):Prop:= ∀i b l own x,i≤n→b<(A i).m.length→ι b=some l→(A n).m[b]?=some (.row own x)→Holds (ι.upto (A i).m.length) w own x l
structure Uc(ops:Array Oper)(n:Nat)(A:Nat→St)(ι0:Emb)(w0:World)(a0:Act)(listed:Array Bool)(ι:Emb)(a:Act)(w:World):Prop where
 low:∀b,b<(A 0).m.length→ι b=ι0 b
 seg:∀b l,ι b=some l→b<(A 0).m.length∨ ∃j,j<n∧listed.getD j false=true∧(A j).m.length≤b∧b<(A (j+1)).m.length
 r:R ι (A n).m w
 hit:∀j,j<n→listed.getD j false=true→ ∀d,BL ops j=some d→((A (j+1)).t d).rel (ι.upto (A (j+1)).m.length) (a.tmps.getD d undef)
 miss:∀t,(∀j,j<n→listed.getD j false=true→BL ops j≠some t)→a.tmps.getD t undef=a0.tmps.getD t undef
 size:a.tmps.size=a0.tmps.size
 defers:a.defers=a0.defers
 head:HeadInv .any ops n listed
 ext:Below w0.heap.size w0 w
 fresh:∀b l own x,(A 0).m.length≤b→ι b=some l→(A n).m[b]?=some (.row own x)→w0.heap.size≤l.c
 cells:iu n A ι w
 tx:∀c o v,ι0.tx c o v→ι.tx c o v
 txn:∀c o v,ι.tx c o v→ι0.tx c o v∨w0.heap.size≤c
theorem Uc.next(hl:It ops n A W V N N0){ι0:Emb}{w0:World}{a0:Act}(hok:mS ops n a0.tmps.size){listed:Array Bool}{ι:Emb}{a:Act}{w:World}(h:Uc ops n A ι0 w0 a0 listed ι a w)
  {i:Nat} (hi:i∈Region.ready .any ops listed) (hin:i<n) {o:Oper} (ho:ops[i]?=some o) {ι':Emb} {u:Value} {w':World} (hle:ι.le ι')
  (hseg:∀b,¬((A i).m.length≤b∧b<(A (i+1)).m.length)→ι' b=ι b) (hr:R ι' (A n).m w') (hu:∀d,o.dst=some d→((A (i+1)).t d).rel (ι'.upto (A (i+1)).m.length) u) (hext:Below w.heap.size w w')
  (hfr:∀b l own x,(A i).m.length≤b→b<(A (i+1)).m.length→ι' b=some l→(A n).m[b]?=some (.row own x)→w.heap.size≤l.c)
  (hce:∀b l own x,(A i).m.length≤b→b<(A (i+1)).m.length→ι' b=some l→(A n).m[b]?=some (.row own x)→Holds (ι'.upto (A (i+1)).m.length) w' own x l) (htx:∀c o v,ι'.tx c o v→ι.tx c o v∨w.heap.size≤c):
  Uc ops n A ι0 w0 a0 (listed.setIfInBounds i true) ι' (a.put o.dst u) w':=by
 have hrd:=mem_ready.1 hi
 have hun:listed.getD i false=false:=getD_both hrd.1
 have his:i<listed.size:=by rw [h.head.size];exact (Array.getElem?_eq_some_iff.1 ho).1
 have hd:BL ops i=o.dst:=by simp [BL,ho]
 have hset:∀j,(listed.setIfInBounds i true).getD j false=true→j=i∨listed.getD j false=true:=fun j hj=>by
  by_cases hji:i=j
  ·exact .inl hji.symm
  ·rw [getD_set_ne false hji] at hj;exact .inr hj
 have hseti:(listed.setIfInBounds i true).getD i false=true:=by simp [his]
 have h0i:=hl.len (Nat.zero_le i) (Nat.le_of_lt hin)
 refine ⟨fun b hb=>by rw [hseg b O_,h.low b hb],fun b l hb=>?_,hr,fun j hj hlj d hdj=>?_,fun t ht=>?_,by rw [show (a.put o.dst u).tmps.size=a.tmps.size by cases o.dst<;>simp [Act.put]];exact h.size,by rw [show (a.put o.dst u).defers=a.defers by cases o.dst<;>rfl];exact h.defers,h.head.set hi hin,h.ext.trans (Below.mono hext h.ext.size),fun b l own x hb h1 h2=>?_,fun j b l own x hj hb h1 h2=>?_,fun c o v hc=>hle.tx c o v (h.tx c o v hc),fun c o v hc=>?_⟩
 ·by_cases hs:(A i).m.length≤b∧b<(A (i+1)).m.length
  ·exact .inr ⟨i,hin,hseti,hs⟩
  ·rw [hseg b hs] at hb
   rcases h.seg b l hb with h1 | ⟨j,h1,h2,h3⟩
   ·exact .inl h1
   ·exact .inr ⟨j,h1,getD_set_true h2,h3⟩
 ·by_cases hji:j=i
  ·subst hji
   rw [hd] at hdj
   rw [hdj,O5 a d d u (by rw [h.size];exact hok.lt j d hj (by rw [hd];exact hdj)),if_pos rfl]
   exact hu d hdj
  ·have hlj':=(hset j hlj).resolve_left hji
   have hne:o.dst≠some d:=fun e=>hji (hok.uniq j i d hj hin hdj (by rw [hd];exact e))
   have hg:(a.put o.dst u).tmps.getD d undef=a.tmps.getD d undef:=by
    cases hod:o.dst with
    |none=>rfl
    |some d'=>
     rw [hod] at hne
     simp only [Act.put,Array.getD_eq_getD_getElem?]
     rw [Array.getElem?_setIfInBounds_ne (fun e=>hne (by rw [e]))]
   rw [hg]
   exact AV.rel_mono (Xo hle) (h.hit j hj hlj' d hdj)
 ·have h1:o.dst≠some t:=by rw [←hd];exact ht i hin hseti
  have hg:(a.put o.dst u).tmps.getD t undef=a.tmps.getD t undef:=by
   cases hod:o.dst with
   |none=>rfl
   |some d'=>
    rw [hod] at h1
    simp only [Act.put,Array.getD_eq_getD_getElem?]
    rw [Array.getElem?_setIfInBounds_ne (fun e=>h1 (by rw [e]))]
  rw [hg]
  exact h.miss t fun j hj hlj=>ht j hj (getD_set_true hlj)
 ·by_cases hs:(A i).m.length≤b∧b<(A (i+1)).m.length
  ·exact Nat.le_trans h.ext.size (hfr b l own x hs.1 hs.2 h1 h2)
  ·rw [hseg b hs] at h1
   exact h.fresh b l own x hb h1 h2
 ·by_cases hs:(A i).m.length≤b∧b<(A (i+1)).m.length
  ·have hij:i+1≤j:=by
    rcases Nat.lt_or_ge i j with h' | h'
    ·exact h'
    ·have:=hl.len h' (Nat.le_of_lt hin);omega
   exact (hce b l own x hs.1 hs.2 h1 h2).mono (jQ ι' (hl.len hij hj))
  ·rw [hseg b hs] at h1
   have hlt:=h.r.lt h1 h2
   exact (h.cells j b l own x hj hb h1 h2).heap (hext.block l.c hlt) (Xo hle)
 ·rcases htx c o v hc with h1 | h1
  ·exact h.txn c o v h1
  ·exact .inr (Nat.le_trans h.ext.size h1)
theorem sE(hl:It ops n A W V N N0){ι:Emb}{w:World}(hR:R ι (A n).m w)(hc:iu n A ι w){i:Nat}(hi:i≤n):R (ι.upto (A i).m.length) (BZ (A i).m) w:=by
 refine ⟨fun b hb=>if_neg (by rw [B8] at hb;omega),fun b l own x h1 h2=>?_,fun b b' l l' own own' x x' hne h1 h2 k1 k2 ho=>?_,fun c Φ hc=>⟨(hR.stay c Φ (hc.to _)).1,fun b l x _ hm _=>by obtain ⟨h,_⟩:=FW hm;cases h⟩⟩
 ·obtain ⟨rfl,o,hm⟩:=FW h2
  have hb:b<(A i).m.length:=(List.getElem?_eq_some_iff.1 hm).1
  have h1':ι b=some l:=(U6 _ _).f b l h1
  have hm':(A n).m[b]?=some (.row o x):=by rw [hl.row hi (Nat.le_refl _) hb];exact hm
  exact (hc i b l o x hi hb h1' hm').ro
 ·obtain ⟨rfl,_⟩:=FW k1
  obtain ⟨rfl,_⟩:=FW k2
  rcases ho with h | h<;>cases h
theorem Hk{ι:Emb}{m:Ak}{c:Nat}(h:C5 ι (BZ m) c):False:=by
 obtain ⟨b,l,x,_,hm,_⟩:=h
 obtain ⟨h,_⟩:=FW hm
 cases h
theorem ABC{ι:Emb}{m:Ak}{w:World}(h:R ι m w):R ι (BZ m) w:=by
 refine ⟨fun b hb=>h.dom b (by rw [B8] at hb;exact hb),fun b l own x h1 h2=>?_,fun b b' l l' own own' x x' _ _ _ k1 k2 ho=>?_,fun c Φ hc=>⟨(h.stay c Φ (hc.to _)).1,fun b l x _ hm _=>by obtain ⟨h,_⟩:=FW hm;cases h⟩⟩
 ·obtain ⟨rfl,o,hm⟩:=FW h2
  exact (h.rows b l o x h1 hm).ro
 ·obtain ⟨rfl,_⟩:=FW k1
  obtain ⟨rfl,_⟩:=FW k2
  rcases ho with h | h<;>cases h
theorem jh{ι ι':Emb}{m N:Ak}{w w':World}(hR:R ι m w)(h:Step m.length ι (BZ m) w ι' (BZ m++N) w'):Step m.length ι m w ι' (m++N) w':=by
 have hle:ι.le ι':=by
  refine ⟨fun b l hb=>?_,h.tx⟩
  have:b<m.length:=by
   rcases Nat.lt_or_ge b m.length with h' | h'
   ·exact h'
   ·rw [hR.dom b h'] at hb;cases hb
  rw [h.ext b this];exact hb
 have new:∀ {b own x},m.length≤b→(m++N)[b]?=some (.row own x)→(BZ m++N)[b]?=some (.row own x):=fun {b own x} hb hm=>by
  rw [List.getElem?_append_right hb] at hm
  rw [List.getElem?_append_right (by rw [B8];exact hb),B8];exact hm
 have old:∀ {b own x},b<m.length→(m++N)[b]?=some (.row own x)→m[b]?=some (.row own x):=fun {b own x} hb hm=>by rw [List.getElem?_append_left hb] at hm;exact hm
 have far:∀ {b l own x},m.length≤b→ι' b=some l→(m++N)[b]?=some (.row own x)→w.heap.size≤l.c:=fun {b l own x} hb hl hm=>by
  rcases h.news b l own x hb hl (new hb hm) with h3 | h3 | ⟨b0,l0,o0,x0,h4,h5,h6,_⟩
  ·exact h3
  ·exact (Hk h3).elim
  ·exact (H9 (by rw [B8];exact h4) h6).elim
 refine ⟨⟨fun b hb=>h.r.dom b (by simpa [B8] using hb),fun b l own x hb hm=>?_,fun b b' l l' own own' x x' hne hb hb' hm hm' hoo=>?_,fun c Φ hc=>⟨(h.r.stay c Φ (hc.to _)).1,fun b l x hb hm e=>?_⟩⟩,⟨h.trans.os,h.trans.tape,h.trans.output,h.trans.size,fun c hc _=>h.trans.keep c hc Hk,fun c hc=>?_⟩,h.tx,fun c o v hc=>(h.txn c o v hc).imp id (.imp id fun h=>(Hk h).elim),h.ext,by simp,fun b x hb hm=>by rw [List.getElem?_append_left hb];exact hm,fun b own x hb hm=>⟨x,old hb hm⟩,fun b l own x hb h1 h2=> .inl (far hb h1 h2)⟩
 ·rcases Nat.lt_or_ge b m.length with hs | hs
  ·rw [h.ext b hs] at hb
   exact (hR.rows b l own x hb (old hs hm)).heap (h.trans.keep l.c (hR.lt hb (old hs hm)) Hk) hle
  ·exact h.r.rows b l own x hb (new hs hm)
 ·rcases Nat.lt_or_ge b m.length with hs | hs<;>rcases Nat.lt_or_ge b' m.length with hs' | hs'
  ·rw [h.ext b hs] at hb
   rw [h.ext b' hs'] at hb'
   exact hR.inj b b' l l' own own' x x' hne hb hb' (old hs hm) (old hs' hm') hoo
  ·rw [h.ext b hs] at hb
   have h1:=hR.lt hb (old hs hm)
   have h2:=far hs' hb' hm'
   omega
  ·rw [h.ext b' hs'] at hb'
   have h1:=hR.lt hb' (old hs' hm')
   have h2:=far hs hb hm
   omega
  ·exact h.r.inj b b' l l' own own' x x' hne hb hb' (new hs hm) (new hs' hm') hoo
 ·rcases Nat.lt_or_ge b m.length with hs | hs
  ·rw [h.ext b hs] at hb
   rcases h.stayn (hc.to _) with h3 | h3 | h3
   ·exact (hR.stay c Φ (h3.to _)).2 b l x hb (old hs hm) e
   ·have:=hR.lt hb (old hs hm);omega
   ·exact Hk h3
  ·exact (h.r.stay c Φ (hc.to _)).2 b l x hb (new hs hm) e
 ·obtain ⟨b,l,x,hb,hm,rfl⟩:=hc
  rcases Nat.lt_or_ge b m.length with hs | hs
  ·rw [h.ext b hs] at hb
   exact .inr ⟨b,l,x,hb,old hs hm,rfl⟩
  ·exact .inl (far hs hb hm)
theorem Uc.agree(hl:It ops n A W V N N0){ι0:Emb}{w0:World}{a0:Act}(hok:mS ops n a0.tmps.size)(hf:DT ι0 (A 0) a0)(hR0:R ι0 (A 0).m w0){listed:Array Bool}{ι:Emb}{a:Act}{w:World}(h:Uc ops n A ι0 w0 a0 listed ι a w)
  {i:Nat} (hin:i<n) {o:Oper} (ho:ops[i]?=some o) (hb:∀j,Te ops i j=true→listed.getD j false=true) (hun:listed.getD i false=false):
  ∀t∈o.looksAt ops,((A i).t t).rel (ι.upto (A i).m.length) (a.tmps.getD t undef):=by
 intro t ht
 have hlow:ι0.le (ι.upto (A i).m.length):=by
  refine ⟨fun b l hbl=>?_,h.tx⟩
  have hb0:b<(A 0).m.length:=by
   rcases Nat.lt_or_ge b (A 0).m.length with h' | h'
   ·exact h'
   ·rw [hR0.dom b h'] at hbl;cases hbl
  have:=hl.len (Nat.zero_le i) (Nat.le_of_lt hin)
  unfold Emb.upto
  dsimp only
  rw [if_pos O_,h.low b hb0];exact hbl
 by_cases hex:∃j,j<n∧BL ops j=some t
 ·obtain ⟨j,hj,hd⟩:=hex
  rcases hok.look i o t j hin ho ht hj hd with ⟨hji,hbij⟩ | ⟨hij,hbji⟩
  ·have hlj:=hb j hbij
   rw [hl.slot (i:=j+1) O_ (Nat.le_of_lt hin) (fun l h1 h2 hd'=>by have:=hok.uniq l j t O_ hj hd' hd;omega)]
   exact AV.rel_mono (jQ ι (hl.len (show j+1≤i by omega) (Nat.le_of_lt hin))) (h.hit j hj hlj t hd)
  ·have hnl:listed.getD j false≠true:=fun hlt=>by
    have hjs:j<ops.size:=by have:=hl.hn;omega
    have:=Dm h.head.closed hbji (Array.getElem?_eq_getElem hjs) (h.head.closed j _ (Array.getElem?_eq_getElem hjs) hlt)
    rw [hun] at this;cases this
   rw [h.miss t (fun j' hj' hl' hd'=>hnl (by rw [←hok.uniq j' j t hj' hj hd' hd];exact hl')),hl.slot (i:=0) (Nat.zero_le i) (Nat.le_of_lt hin) (fun l _ h2 hd'=>by have:=hok.uniq l j t O_ hj hd' hd;omega)]
   exact AV.rel_mono hlow (hf.rel t)
 ·have hno:∀j,j<n→BL ops j≠some t:=fun j hj hd=>hex ⟨j,hj,hd⟩
  rw [h.miss t (fun j hj _=>hno j hj),hl.slot (i:=0) (Nat.zero_le i) (Nat.le_of_lt hin) (fun l _ h2=>hno l O_)]
  exact AV.rel_mono hlow (hf.rel t)
theorem Uc.run{P:Program}{Q':Exit→Act→World→Prop}(hl:It ops n A W V N N0)(hW:∀i o,i<n→ops[i]?=some o→CB ops (A i).t o=some (W i))
  (hV:∀i o,i<n→ops[i]?=some o→W i=true→O7 P (.op o.op (AC (A i).t) (BZ (A i).m)) (.val (V i) (BZ (A i).m++N i)))
  {ι0:Emb} {w0:World} {a0:Act} (hok:mS ops n a0.tmps.size) (hf:DT ι0 (A 0) a0) (hR0:R ι0 (A 0).m w0) {listed:Array Bool} {ι:Emb} {a:Act} {w:World} (h:Uc ops n A ι0 w0 a0 listed ι a w)
  {i:Nat} (hi:i∈Region.ready .any ops listed) (hin:i<n) {K:Act→World→Prop} (hK:∀ι' a' w',Uc ops n A ι0 w0 a0 (listed.setIfInBounds i true) ι' a' w'→K a' w'):wpOp P ops Q' i K a w:=by
 have hr:=mem_ready.1 hi
 have hun:listed.getD i false=false:=getD_both hr.1
 obtain ⟨_,o,ho,hall⟩:=hr
 have hdeps:∀j,Te ops i j=true→listed.getD j false=true:=fun j hb=>Dm h.head.closed hb ho hall
 have hag:=h.agree hl hok hf hR0 hin ho hdeps hun
 have hwant:Region.wanted o (yielded ops a.tmps)=W i:=by
  refine Qf (ι:=ι.upto (A i).m.length) (fun d ⟨g,hg,hd⟩=>hag d ?_) (hW i o hin ho)
  obtain ⟨g1,g2⟩:=g
  simp [Oper.looksAt,hg]
  exact .inr (by simpa using hd)
 have hRi:=sE hl h.r h.cells (Nat.le_of_lt hin)
 have hopnd:∀x∈o.op.operands,(AC (A i).t x).rel (ι.upto (A i).m.length) (a.eval x):=by
  intro x hx
  cases x with
  |tmp t=>
   exact hag t (List.mem_append_left _ (List.mem_filterMap.2 ⟨.tmp t,by simpa using hx,rfl⟩))
  |const v=>exact AV.rel_of0 (Ox _ v)
  |global g=>trivial
  |func f=>rfl
 have hstep:=hl.step i o hin ho
 unfold wpOp
 simp only [ho]
 rw [hwant]
 by_cases hw:W i=true
 ·rw [hw,if_pos rfl]
  rw [if_pos hw] at hstep
  refine .inl ?_;have hgood:=hV i o hin ho hw o (ι.upto (A i).m.length) w a.eval rfl hRi hopnd
  refine hgood.wp rfl fun u w' ι1 hv hst=>?_
  have hlenA:(A (i+1)).m.length=(BZ (A i).m++N i).length:=by rw [hstep];simp [B8]
  have hlo:(A i).m.length≤(A (i+1)).m.length:=(hl.mem1 hin).1
  have hhi:(A (i+1)).m.length≤(A n).m.length:=hl.len O_ (Nat.le_refl _)
  rw [B8] at hst
  have hle1:∀b l,ι1 b=some l→b<(A (i+1)).m.length:=fun b l hb=>by
   rcases Nat.lt_or_ge b (A (i+1)).m.length with h' | h'
   ·exact h'
   ·rw [hst.r.dom b (by rw [←hlenA];exact h')] at hb;cases hb
  have segnone:∀b,(A i).m.length≤b→b<(A (i+1)).m.length→ι b=none:=fun b h1 h2=>by
   cases hb:ι b with
   |none=>rfl
   |some l=>
    rcases h.seg b l hb with h3 | ⟨j,h3,h4,h5,h6⟩
    ·have:=hl.len (Nat.zero_le i) (Nat.le_of_lt hin);omega
    ·have hij:j≠i:=fun e=>by rw [e,hun] at h4;cases h4
     rcases Nat.lt_or_ge j i with h7 | h7
     ·have:=hl.len (show j+1≤i by omega) (Nat.le_of_lt hin);omega
     ·have:=hl.len (show i+1≤j by omega) (Nat.le_of_lt h3);omega
  let ι2:Emb:=⟨fun b=>if (A i).m.length≤b∧b<(A (i+1)).m.length then ι1 b else ι b,ι1.tx⟩
  have i2in:∀b,(A i).m.length≤b→b<(A (i+1)).m.length→ι2 b=ι1 b:=fun b h1 h2=>if_pos ⟨h1,h2⟩
  have i2out:∀b,¬((A i).m.length≤b∧b<(A (i+1)).m.length)→ι2 b=ι b:=fun b hb=>if_neg hb
  have hle:ι.le ι2:=by
   refine ⟨fun b l hb=>?_,hst.tx⟩
   by_cases hs:(A i).m.length≤b∧b<(A (i+1)).m.length
   ·rw [segnone b hs.1 hs.2] at hb;cases hb
   ·rw [i2out b hs];exact hb
  have h12:ι1.le (ι2.upto (A (i+1)).m.length):=by
   refine ⟨fun b l hb=>?_,fun _ _ _ h=>h⟩
   have hlt:=hle1 b l hb
   unfold Emb.upto
   dsimp only
   rw [if_pos hlt]
   by_cases hs:(A i).m.length≤b
   ·rw [i2in b hs hlt];exact hb
   ·rw [i2out b O_]
    have:=hst.ext b O_
    rw [this] at hb
    exact (U6 _ _).f b l hb
  have newrow:∀ {b own x},(A i).m.length≤b→b<(A (i+1)).m.length→(A n).m[b]?=some (.row own x)→(BZ (A i).m++N i)[b]?=some (.row own x):=by
   intro b own x h1 h2 hm
   rw [hl.row (show i+1≤n by omega) (Nat.le_refl _) h2,hstep] at hm
   rw [List.getElem?_append_right O_] at hm
   rw [List.getElem?_append_right (by rw [B8];omega),B8];exact hm
  have hext:Below w.heap.size w w':=⟨hst.trans.os,hst.trans.tape,hst.trans.output,hst.trans.size,fun c hc=>hst.trans.keep c hc Hk⟩
  have hfr:∀b l own x,(A i).m.length≤b→b<(A (i+1)).m.length→ι2 b=some l→(A n).m[b]?=some (.row own x)→w.heap.size≤l.c:=by
   intro b l own x h1 h2 hb hm
   rw [i2in b h1 h2] at hb
   rcases hst.news b l own x h1 hb (newrow h1 h2 hm) with h3 | h3 | ⟨b0,l0,o0,x0,h4,h5,h6,_⟩
   ·exact h3
   ·exact (Hk h3).elim
   ·exact (H9 (by rw [B8];exact h4) h6).elim
  have hR2:R ι2 (A n).m w':=by
   refine ⟨fun b hb=>?_,fun b l own x hb hm=>?_,fun b b' l l' own own' x x' hne hb hb' hm hm' hoo=>?_,fun c Φ hc=>⟨(hst.r.stay c Φ (hc.to _)).1,fun b l x hb hm e=>?_⟩⟩
   ·rw [i2out b O_];exact h.r.dom b hb
   ·by_cases hs:(A i).m.length≤b∧b<(A (i+1)).m.length
    ·rw [i2in b hs.1 hs.2] at hb
     exact ((hst.r.rows b l own x hb (newrow hs.1 hs.2 hm)).mono h12).mono (U6 _ _)
    ·rw [i2out b hs] at hb
     exact (h.r.rows b l own x hb hm).heap (hext.block l.c (h.r.lt hb hm)) hle
   ·by_cases hs:(A i).m.length≤b∧b<(A (i+1)).m.length<;>by_cases hs':(A i).m.length≤b'∧b'<(A (i+1)).m.length
    ·rw [i2in b hs.1 hs.2] at hb
     rw [i2in b' hs'.1 hs'.2] at hb'
     exact hst.r.inj b b' l l' own own' x x' hne hb hb' (newrow hs.1 hs.2 hm) (newrow hs'.1 hs'.2 hm') hoo
    ·have h1:=hfr b l own x hs.1 hs.2 hb hm
     rw [i2out b' hs'] at hb'
     have h2:=h.r.lt hb' hm'
     omega
    ·have h1:=hfr b' l' own' x' hs'.1 hs'.2 hb' hm'
     rw [i2out b hs] at hb
     have h2:=h.r.lt hb hm
     omega
    ·rw [i2out b hs] at hb
     rw [i2out b' hs'] at hb'
     exact h.r.inj b b' l l' own own' x x' hne hb hb' hm hm' hoo
   ·by_cases hs:(A i).m.length≤b∧b<(A (i+1)).m.length
    ·rw [i2in b hs.1 hs.2] at hb
     exact (hst.r.stay c Φ (hc.to _)).2 b l x hb (newrow hs.1 hs.2 hm) e
    ·rw [i2out b hs] at hb
     rcases hst.stayn (hc.to _) with h3 | h3 | h3
     ·exact (h.r.stay c Φ (h3.to _)).2 b l x hb hm e
     ·have:=h.r.lt hb hm;omega
     ·exact Hk h3
  refine hK ι2 _ _ (h.next hl hok hi hin ho hle i2out hR2 (fun d hd=>?_) hext hfr (fun b l own x h1 h2 hb hm=>?_) (fun c o v hc=>(hst.txn c o v hc).imp id fun h=>h.elim id fun h=>(Hk h).elim))
  ·rw [hstep]
   show (Ce (A i).t o.dst (V i) d).rel _ _
   rw [hd]
   show (upd (A i).t d (V i) d).rel _ _
   rw [upd_eq]
   have:=AV.rel_mono h12 hv
   rw [hstep] at this
   exact this
  ·rw [i2in b h1 h2] at hb
   exact (hst.r.rows b l own x hb (newrow h1 h2 hm)).mono h12
 ·have hw':W i=false:=by cases hc:W i<;>simp_all
  rw [hw']
  rw [if_neg hw] at hstep
  have hm:(A (i+1)).m=(A i).m:=by rw [hstep]
  refine hK ι _ _ (h.next hl hok hi hin ho (.refl _) (fun _ _=>rfl) h.r (fun d hd=>?_) (Below.refl _ _) (fun b l own x h1 h2=>by rw [hm] at h2;omega) (fun b l own x h1 h2=>by rw [hm] at h2;omega) (fun _ _ _ h=> .inl h))
  rw [hstep]
  show (Ce (A i).t o.dst mQ d).rel _ _
  rw [hd]
  show (upd (A i).t d mQ d).rel _ _
  rw [upd_eq]
  rfl
theorem Uc.any{P:Program}{Q':Exit→Act→World→Prop}{k:Nat}(hl:It ops n A W V N N0)(hW:∀i o,i<n→ops[i]?=some o→CB ops (A i).t o=some (W i))
  (hV:∀i o,i<n→ops[i]?=some o→W i=true→O7 P (.op o.op (AC (A i).t) (BZ (A i).m)) (.val (V i) (BZ (A i).m++N i)))
  {ι0:Emb} {w0:World} {a0:Act} (hall:Region.okAll ops n a0.tmps.size=true) (hf:DT ι0 (A 0) a0) (hR0:R ι0 (A 0).m w0) (hk:k≤(A 0).m.length)
  (hQ:∀ι' a' w',DT ι' (A n) a'→a'.defers=a0.defers→Step k ι0 (A 0).m w0 ι' (A n).m w'→wpList P ops Q' (ops.toList.drop n) a' w'):
  ∀(f:Nat) (un:List Nat) (listed:Array Bool) (ι:Emb) (a:Act) (w:World),un.length=f→un.Nodup→(∀j,j∈un↔j<n∧listed.getD j false=false)→Uc ops n A ι0 w0 a0 listed ι a w→
   wpAny P .any ops Q' (f+(ops.size-n)) listed a w:=by
 simp only [Region.okAll,Bool.and_eq_true,Bool.or_eq_true,decide_eq_true_eq] at hall
 obtain ⟨⟨⟨⟨hn,hok0⟩,htail⟩,hseq⟩,hback⟩:=hall
 have hok:=Region.okX_spec hok0
 intro f
 induction f with
 |zero=>
  intro un listed ι a w hlu _ hun h
  obtain rfl:un=[]:=List.length_eq_zero_iff.1 hlu
  have hdone:∀j,j<n→listed.getD j false=true:=fun j hj=>by
   cases hb:listed.getD j false with
   |true=>rfl
   |false=>have:=(hun j).2 ⟨hj,hb⟩;simp at this
  have hlisted:listed=KB n ops.size:=by
   apply Array.ext_getElem?
   intro j
   by_cases hj:j<ops.size
   ·have hjl:j<listed.size:=by rw [h.head.size];exact hj
    have e:(KB n ops.size)[j]?=some (decide (j<n)):=by simp [KB,hj]
    rw [e,Array.getElem?_eq_getElem hjl]
    congr 1
    by_cases hjn:j<n
    ·have:=hdone j hjn;simpa [hjl,hjn] using this
    ·have:=h.head.tail j O_ hj;simpa [hjl,hjn] using this
   ·rw [Array.getElem?_eq_none (by rw [h.head.size];omega),Array.getElem?_eq_none (by simp [KB];omega)]
  have h0n:=hl.len (Nat.zero_le n) (Nat.le_refl n)
  have hlow:ι0.le ι:=by
   refine ⟨fun b l hbl=>?_,h.tx⟩
   have hb0:b<(A 0).m.length:=by
    rcases Nat.lt_or_ge b (A 0).m.length with h' | h'
    ·exact h'
    ·rw [hR0.dom b h'] at hbl;cases hbl
   rw [h.low b hb0];exact hbl
  have hnn:∀i,(A i).n=N0∨i=0∨n<i:=fun i=>by
   rcases Nat.eq_zero_or_pos i with h0 | h0
   ·exact .inr (.inl h0)
   ·rcases Nat.lt_or_ge n i with h1 | h1
    ·exact .inr (.inr h1)
    ·obtain ⟨o,ho⟩:=hl.at (show i-1<n by omega)
     have:=hl.step (i-1) o O_ ho
     rw [show i-1+1=i by omega] at this
     rw [this];left;split<;>rfl
  have hq:=hQ ι a w ⟨?_,fun t=>?_⟩ h.defers ⟨h.r,⟨h.ext.os,h.ext.tape,h.ext.output,h.ext.size,fun c hc _=>h.ext.block c hc,fun c hc=>?_⟩,h.tx,fun c o v hc=>(h.txn c o v hc).imp id .inl,fun b hb=>h.low b O_,by omega,fun b x hb hm=>?_,fun b own x hb hm=>?_,fun b l own x hb h1 h2=>?_⟩
  ·have hdl:(ops.toList.drop n).length=ops.size-n:=by simp
   have:=wpAny_of_seq (md:= .any) (Q':=Q') (ops.toList.drop n) n listed a w (fun j=>by simp [List.getElem?_drop]) (by rw [hdl,hlisted];exact hseq) hq
   rw [hdl] at this
   rw [Nat.zero_add]
   exact this
  ·rw [h.size,hf.size,hl.h0]
   rcases hnn n with h0 | h0 | h0
   ·exact h0.symm
   ·rw [h0];exact hl.h0.symm
   ·omega
  ·by_cases hex:∃j,j<n∧BL ops j=some t
   ·obtain ⟨j,hj,hd⟩:=hex
    rw [hl.slot (i:=j+1) O_ (Nat.le_refl n) (fun l h1 h2 hd'=>by have:=hok.uniq l j t O_ hj hd' hd;omega)]
    exact AV.rel_mono (U6 _ _) (h.hit j hj (hdone j hj) t hd)
   ·have hno:∀j,j<n→BL ops j≠some t:=fun j hj hd=>hex ⟨j,hj,hd⟩
    rw [h.miss t (fun j hj _=>hno j hj),hl.slot (i:=0) (Nat.zero_le n) (Nat.le_refl n) (fun l _ h2=>hno l O_)]
    exact AV.rel_mono hlow (hf.rel t)
  ·obtain ⟨b,l,x,h1,h2,rfl⟩:=hc
   rcases Nat.lt_or_ge b (A 0).m.length with h3 | h3
   ·rw [h.low b h3] at h1
    rw [hl.row (Nat.zero_le n) (Nat.le_refl n) h3] at h2
    exact .inr ⟨b,l,x,h1,h2,rfl⟩
   ·exact .inl (h.fresh b l true x h3 h1 h2)
  ·rw [hl.row (Nat.zero_le n) (Nat.le_refl n) O_];exact hm
  ·rw [hl.row (Nat.zero_le n) (Nat.le_refl n) O_] at hm;exact ⟨x,hm⟩
  ·rcases Nat.lt_or_ge b (A 0).m.length with h3 | h3
   ·rw [h.low b h3] at h1
    rw [hl.row (Nat.zero_le n) (Nat.le_refl n) h3] at h2
    exact .inr (.inr ⟨b,l,own,x,hb,h1,h2,rfl⟩)
   ·exact .inl (h.fresh b l own x h3 h1 h2)
 |succ f ih=>
  intro un listed ι a w hlu hnd hun h
  obtain ⟨i0,hi0⟩:∃i0,i0∈un:=by cases un with | nil=>simp at hlu | cons x _=>exact ⟨x,List.mem_cons_self⟩
  have least:∀m i,i≤m→i∈un→ ∃j,j∈Region.ready .any ops listed:=by
   intro m
   induction m with
   |zero=>
    intro i him hiu
    obtain ⟨hin,hb⟩:=(hun i).1 hiu
    have his:i<listed.size:=by rw [h.head.size];omega
    refine ⟨i,mem_ready.2 ⟨getD_in his hb,ops[i]'O_,Array.getElem?_eq_getElem O_,fun e he hbind=>?_⟩⟩
    have:=List.all_eq_true.1 hback i (List.mem_range.2 O_)
    rw [Array.getElem?_eq_getElem (show i<ops.size by omega)] at this
    have:=Array.all_eq_true_iff_forall_mem.1 this e he
    simp only [hbind,Bool.not_true,Bool.false_or,decide_eq_true_eq] at this
    omega
   |succ m ihm=>
    intro i him hiu
    obtain ⟨hin,hb⟩:=(hun i).1 hiu
    have his:i<listed.size:=by rw [h.head.size];omega
    by_cases hall:∀e∈(ops[i]'O_).after,Region.binds .any e=true→listed.getD e.on false=true
    ·exact ⟨i,mem_ready.2 ⟨getD_in his hb,_,Array.getElem?_eq_getElem O_,hall⟩⟩
    ·have:∃e∈(ops[i]'O_).after,Region.binds .any e=true∧listed.getD e.on false=false:=by
      apply Classical.byContradiction
      intro hc
      apply hall
      intro e he hbind
      cases hlb:listed.getD e.on false with
      |true=>rfl
      |false=>exact absurd ⟨e,he,hbind,hlb⟩ hc
     obtain ⟨e,he,hbind,hlb⟩:=this
     have hlt:=List.all_eq_true.1 hback i (List.mem_range.2 O_)
     rw [Array.getElem?_eq_getElem (show i<ops.size by omega)] at hlt
     have hlt:=Array.all_eq_true_iff_forall_mem.1 hlt e he
     simp only [hbind,Bool.not_true,Bool.false_or,decide_eq_true_eq] at hlt
     exact ihm e.on O_ ((hun e.on).2 ⟨by omega,hlb⟩)
  rw [show f+1+(ops.size-n)=(f+(ops.size-n))+1 by omega]
  refine ⟨fun hnil=>?_,fun i hi=>?_⟩
  ·obtain ⟨j,hj⟩:=least i0 i0 (Nat.le_refl _) hi0
   rw [hnil] at hj;cases hj
  ·have hun0:=(mem_ready.1 hi).1
   have hin:i<n:=by
    rcases Nat.lt_or_ge i n with hlt | hge
    ·exact hlt
    ·obtain ⟨_,o,ho,_⟩:=mem_ready.1 hi
     have his:i<ops.size:=(Array.getElem?_eq_some_iff.1 ho).1
     rcases htail with he | ⟨hs,hc⟩
     ·omega
     ·obtain ⟨hi0n,hb0⟩:=(hun i0).1 hi0
      exact absurd hi (tail_waits hs hc O_ h.head _ i0 rfl hi0n (getD_in (by rw [h.head.size];omega) hb0) i hge)
   refine h.run hl hW hV hok hf hR0 hi hin fun ι' a' w' h'=>?_
   have himem:i∈un:=(hun i).2 ⟨hin,getD_both hun0⟩
   refine ih (un.erase i) _ ι' a' w' (by rw [List.length_erase_of_mem himem,hlu];rfl) (hnd.erase i) (fun j=>?_) h'
   rw [hnd.mem_erase_iff,hun j]
   by_cases hji:j=i
   ·subst hji
    have his:j<listed.size:=by rw [h.head.size];omega
    simp [his]
   ·rw [getD_set_ne false (fun e=>hji e.symm)]
    simp [hji]
theorem bo {P : Program} {Q : Exit → Act → World → Prop} {k : Nat} (hl : It ops n A W V N (A 0).n) (hW : ∀ i o, i < n → ops[i]? = some o → CB ops (A i).t o = some (W i))
    (hV : ∀ i o, i < n → ops[i]? = some o → W i = true → O7 P (.op o.op (AC (A i).t) (BZ (A i).m)) (.val (V i) (BZ (A i).m ++ N i)))
    (hall : Region.okAll ops n (A 0).n = true) {ι : Emb} {w : World} {a : Act} (hf : DT ι (A 0) a) (hR : R ι (A 0).m w) (hk : k ≤ (A 0).m.length)
    (hQ : ∀ ι' a' w', DT ι' (A n) a' → a'.defers = a.defers → Step k ι (A 0).m w ι' (A n).m w' → wpList P ops Q (ops.toList.drop n) a' w') : wpAny P .any ops Q ops.size (Array.replicate ops.size false) a w.drew := by
  have hn := hl.hn
  have hRd : R ι (A 0).m w.drew := ⟨hR.dom, hR.rows, hR.inj, hR.stay⟩
  have h0n := hl.len (Nat.zero_le n) (Nat.le_refl n)
  have hinv : Uc ops n A ι w.drew a (Array.replicate ops.size false) ι a w.drew := by
    refine ⟨fun _ _ => rfl, fun b l hb => .inl ?_, ⟨fun b hb => hR.dom b O_, fun b l own x hb hm => ?_, fun b b' l l' o o' x x' hne hb hb' hm hm' ho => ?_, fun c Φ hc => ⟨(hRd.stay c Φ (hc.to _)).1, fun b l x hb hm e => ?_⟩⟩, fun j _ hl => (by rw [getD_replicate_false] at hl; cases hl), fun _ _ => rfl, rfl, rfl,
      ⟨by simp, fun j oj _ hl => (by rw [getD_replicate_false] at hl; cases hl), fun t _ ht => getD_in (by simpa using ht) (getD_replicate_false _ _)⟩, Below.refl _ _, fun b l own x hb h1 h2 => ?_, fun i b l own x hi hb h1 h2 => ?_, fun _ _ _ h => h, fun _ _ _ h => .inl h⟩
    all_goals
      have inlow : ∀ b l, ι b = some l → b < (A 0).m.length := fun b l hb => by
        rcases Nat.lt_or_ge b (A 0).m.length with h' | h'
        · exact h'
        · rw [hR.dom b h'] at hb; cases hb
    · exact inlow b l hb
    · rw [hl.row (Nat.zero_le n) (Nat.le_refl n) (inlow b l hb)] at hm
      exact hRd.rows b l own x hb hm
    · rw [hl.row (Nat.zero_le n) (Nat.le_refl n) (inlow b l hb)] at hm
      rw [hl.row (Nat.zero_le n) (Nat.le_refl n) (inlow b' l' hb')] at hm'
      exact hRd.inj b b' l l' o o' x x' hne hb hb' hm hm' ho
    · rw [hl.row (Nat.zero_le n) (Nat.le_refl n) (inlow b l hb)] at hm
      exact (hRd.stay c Φ (hc.to _)).2 b l x hb hm e
    · have := inlow b l h1; omega
    · rw [hl.row (Nat.zero_le n) (Nat.le_refl n) (inlow b l h1)] at h2
      refine (hRd.rows b l own x h1 h2).mono ⟨fun b l hb => ?_, fun _ _ _ h => h⟩
      have h3 := inlow b l hb
      have h4 := hl.len (Nat.zero_le i) hi
      unfold Emb.upto
      dsimp only
      rw [if_pos O_]; exact hb
  have := Uc.any (Q' := Q) hl hW hV (by rw [hf.size]; exact hall) hf hRd hk (fun ι' a' w' h1 h2 h3 => hQ ι' a' w' h1 h2 ⟨h3.r, ⟨h3.trans.os, h3.trans.tape, h3.trans.output, h3.trans.size, h3.trans.keep, h3.trans.fresh⟩, h3.tx, h3.txn, h3.ext, h3.len, h3.ro, h3.old, h3.news⟩) n (List.range n) _ _ _ _ (by simp) List.nodup_range (fun j => by rw [getD_replicate_false]; simp) hinv
  have e : n + (ops.size - n) = ops.size := by omega
  rw [e] at this
  exact this
theorem gJ {P : Program} {Q : Exit → Act → World → Prop} {id k : Nat} (hm : P.follows .mixedOrders = true) (hl : It ops n A W V N (A 0).n) (hW : ∀ i o, i < n → ops[i]? = some o → CB ops (A i).t o = some (W i))
    (hV : ∀ i o, i < n → ops[i]? = some o → W i = true → O7 P (.op o.op (AC (A i).t) (BZ (A i).m)) (.val (V i) (BZ (A i).m ++ N i)))
    (hall : Region.okAll ops n (A 0).n = true) {ι : Emb} {w : World} {a : Act} (hf : DT ι (A 0) a) (hR : R ι (A 0).m w) (hk : k ≤ (A 0).m.length)
    (hQ : ∀ ι' a' w', DT ι' (A n) a' → a'.defers = a.defers → Step k ι (A 0).m w ι' (A n).m w' → wpList P ops Q (ops.toList.drop n) a' w') : (Code.region id ops true).wp P Q a w := wp_region_any hm (bo hl hW hV hall hf hR hk hQ)
theorem fB{P:Program}{Q:Exit→Act→World→Prop}{id k i0:Nat}(hm:P.follows .mixedOrders=true)(hc:MJ ops n i0=true)(hl:It (BK ops n i0) n A W V N (A 0).n)(hW:∀i o,i<n→(BK ops n i0)[i]?=some o→CB (BK ops n i0) (A i).t o=some (W i))
  (hV:∀i o,i<n→(BK ops n i0)[i]?=some o→W i=true→O7 P (.op o.op (AC (A i).t) (BZ (A i).m)) (.val (V i) (BZ (A i).m++N i)))
  (hall:Region.okAll (BK ops n i0) n (A 0).n=true) {ι:Emb} {w:World} {a:Act} (hf:DT ι (A 0) a) (hR:R ι (A 0).m w) (hk:k≤(A 0).m.length)
  (hQ:∀ι' a' w',DT ι' (A n) a'→a'.defers=a.defers→Step k ι (A 0).m w ι' (A n).m w'→wpList P (BK ops n i0) (nrm Q) ((BK ops n i0).toList.drop n) a' w'):(Code.region id ops true).wp P Q a w:=by
 obtain ⟨oi,on,hlo⟩:=WW hc
 have h1:=bo hl hW hV hall hf hR hk hQ
 rw [kC] at h1
 have h2:=oC hlo _ _ _ _ (by simp) h1
 exact wp_mono (wp_region_any hm h2) fun e a w h=>by obtain ⟨rfl,h⟩:=h;exact h
end
structure OkS(ops:Array Oper)(size:Nat):Prop where
 ok:mS ops ops.size size
 guard:∀(i:Nat) (o:Oper),ops[i]?=some o→o.guard=none
 dst:∀(i:Nat) (o:Oper),ops[i]?=some o→BG o=true→o.dst=none
 chain:∀(i j:Nat) (o o':Oper),i<j→ops[i]?=some o→ops[j]?=some o'→BG o=true→BG o'=true→Te ops j i=true
 back:∀(i:Nat) (o:Oper) (e:Edge),ops[i]?=some o→e∈o.after→Region.binds .any e=true→e.on<i
theorem Region.okStores_spec{ops:Array Oper}{size:Nat}(h:Region.okStores ops size=true):OkS ops size:=by
 simp only [Region.okStores,Bool.and_eq_true,List.all_eq_true,List.mem_range] at h
 obtain ⟨h1,h2⟩:=h
 have lt:∀ {i:Nat} {o:Oper},ops[i]?=some o→i<ops.size:=fun ho=>(Array.getElem?_eq_some_iff.1 ho).1
 refine ⟨Region.okX_spec h1,fun i o ho=>?_,fun i o ho hs=>?_,fun i j o o' hij ho ho' hs hs'=>?_,fun i o e ho he hb=>?_⟩
 ·have:=h2 i (lt ho)
  rw [ho] at this
  simp only [Bool.and_eq_true,Option.isNone_iff_eq_none] at this
  exact this.1.1
 ·have:=h2 i (lt ho)
  rw [ho] at this
  simp only [Bool.and_eq_true,Bool.or_eq_true,hs,Bool.not_true,Bool.false_eq_true,false_or,Option.isNone_iff_eq_none] at this
  exact this.1.2.1
 ·have:=h2 i (lt ho)
  rw [ho] at this
  simp only [Bool.and_eq_true,Bool.or_eq_true,hs,Bool.not_true,Bool.false_eq_true,false_or,List.all_eq_true,List.mem_range] at this
  have:=this.1.2.2 j (lt ho')
  rw [ho'] at this
  simpa [hs',hij] using this
 ·have:=h2 i (lt ho)
  rw [ho] at this
  simp only [Bool.and_eq_true] at this
  have:=Array.all_eq_true_iff_forall_mem.1 this.2 e he
  simpa [hb] using this
structure Ge(P:Program)(ops:Array Oper)(A:Nat→St)(V:Nat→AV)(N0:Nat):Prop where
 h0:(A 0).n=N0
 pure:∀(i:Nat) (o:Oper),ops[i]?=some o→BG o=false→(AL P (AC (A i).t) (Gp (A 0).m.length) o.op=some (V i)∨(early ops i=true∧O7 P (.op o.op (AC (A i).t) (A 0).m) (.val (V i) (A 0).m))∨ ∃Mk:Ak,(∀c,c≤ops.size→ ∀(ι:Emb) (w:World),R ι (A c).m w→R ι Mk w)∧AL P (AC (A i).t) Mk o.op=some (V i))∧A (i+1)=⟨N0,Ce (A i).t o.dst (V i),(A i).m⟩
 store:∀(i:Nat) (o:Oper),ops[i]?=some o→BG o=true→ ∃v m',CP P (AC (A i).t) (A i).m o.op=some (v,m')∧m'.length=(A i).m.length∧A (i+1)=⟨N0,(A i).t,m'⟩
section
variable {P:Program} {ops:Array Oper} {A:Nat→St} {V:Nat→AV} {N0:Nat}
theorem Ge.tmp1(h:Ge P ops A V N0){i:Nat}(hi:i<ops.size){t:Nat}(ht:BL ops i≠some t):(A (i+1)).t t=(A i).t t:=by
 have ho:ops[i]?=some (ops[i]'hi):=Array.getElem?_eq_getElem hi
 have hd:BL ops i=(ops[i]'hi).dst:=by simp [BL,ho]
 rw [hd] at ht
 cases hs:BG (ops[i]'hi) with
 |true=>obtain ⟨v,m',_,_,e⟩:=h.store i _ ho hs;rw [e]
 |false=>
  obtain ⟨_,e⟩:=h.pure i _ ho hs
  rw [e]
  show Ce (A i).t (ops[i]'hi).dst (V i) t=_
  cases hdd:(ops[i]'hi).dst with
  |none=>rfl
  |some d=>rw [hdd] at ht;exact upd_ne _ _ (fun e=>ht (by rw [e]))
theorem Ge.len1(h:Ge P ops A V N0){i:Nat}(hi:i<ops.size):(A (i+1)).m.length=(A i).m.length:=by
 have ho:ops[i]?=some (ops[i]'hi):=Array.getElem?_eq_getElem hi
 cases hs:BG (ops[i]'hi) with
 |true=>obtain ⟨v,m',_,hl,e⟩:=h.store i _ ho hs;rw [e];exact hl
 |false=>obtain ⟨_,e⟩:=h.pure i _ ho hs;rw [e]
theorem Ge.len(h:Ge P ops A V N0):∀i,i≤ops.size→(A i).m.length=(A 0).m.length
 |0,_=>rfl
 |i+1,hi=>by rw [h.len1 O_,Ge.len h i O_]
theorem Ge.slot(h:Ge P ops A V N0){i t:Nat}:∀d,i+d≤ops.size→(∀j,i≤j→j<i+d→BL ops j≠some t)→(A (i+d)).t t=(A i).t t
 |0,_,_=>rfl
 |d+1,hd,hno=>by
  rw [show i+(d+1)=i+d+1 by omega,h.tmp1 O_ (hno _ O_ O_),Ge.slot h d O_ fun j h1 h2=>hno j h1 O_]
theorem Ge.slot'(h:Ge P ops A V N0){i j t:Nat}(hij:i≤j)(hj:j≤ops.size)(hno:∀l,i≤l→l<j→BL ops l≠some t):(A j).t t=(A i).t t:=by
 have:=h.slot (i:=i) (t:=t) (j-i) O_ (fun l h1 h2=>hno l h1 O_)
 rwa [show i+(j-i)=j by omega] at this
theorem Ge.mem(h:Ge P ops A V N0){i:Nat}:∀d,i+d≤ops.size→(∀j o,i≤j→j<i+d→ops[j]?=some o→BG o=false)→(A (i+d)).m=(A i).m
 |0,_,_=>rfl
 |d+1,hd,hno=>by
  have hlt:i+d<ops.size:=by omega
  have ho:ops[i+d]?=some (ops[i+d]'hlt):=Array.getElem?_eq_getElem hlt
  obtain ⟨_,e⟩:=h.pure (i+d) _ ho (hno _ _ O_ O_ ho)
  rw [show i+(d+1)=i+d+1 by omega,e]
  exact Ge.mem h d O_ fun j o h1 h2=>hno j o h1 O_
theorem Ge.mem'(h:Ge P ops A V N0){i j:Nat}(hij:i≤j)(hj:j≤ops.size)(hno:∀l o,i≤l→l<j→ops[l]?=some o→BG o=false):(A j).m=(A i).m:=by
 have:=h.mem (i:=i) (j-i) O_ (fun l o h1 h2=>hno l o h1 O_)
 rwa [show i+(j-i)=j by omega] at this
structure UX(ops:Array Oper)(A:Nat→St)(k:Nat)(ι0:Emb)(w0:World)(a0:Act)(listed:Array Bool)(ι:Emb)(a:Act)(w:World):Prop where
 cut:∃j,j≤ops.size∧(∀i o,ops[i]?=some o→BG o=true→(listed.getD i false=true↔i<j))∧Step k ι0 (A 0).m w0 ι (A j).m w
 le:ι0.le ι
 hit:∀j,j<ops.size→listed.getD j false=true→ ∀d,BL ops j=some d→((A (j+1)).t d).rel ι (a.tmps.getD d undef)
 miss:∀t,(∀j,j<ops.size→listed.getD j false=true→BL ops j≠some t)→a.tmps.getD t undef=a0.tmps.getD t undef
 size:a.tmps.size=a0.tmps.size
 defers:a.defers=a0.defers
 head:HeadInv .any ops ops.size listed
theorem Jo(a:Act){d:Option Tmp}{t:Nat}(u:Value)(h:d≠some t):(a.put d u).tmps.getD t undef=a.tmps.getD t undef:=by
 cases d with
 |none=>rfl
 |some d=>
  simp only [Act.put,Array.getD_eq_getD_getElem?]
  rw [Array.getElem?_setIfInBounds_ne (fun e=>h (by rw [e]))]
theorem UX.agree(hl:Ge P ops A V N0){k:Nat}{ι0:Emb}{w0:World}{a0:Act}(hok:mS ops ops.size a0.tmps.size)(hf:DT ι0 (A 0) a0){listed:Array Bool}{ι:Emb}{a:Act}{w:World}(h:UX ops A k ι0 w0 a0 listed ι a w)
  {i:Nat} (hin:i<ops.size) {o:Oper} (ho:ops[i]?=some o) (hb:∀j,Te ops i j=true→listed.getD j false=true) (hun:listed.getD i false=false):
  ∀t∈o.looksAt ops,((A i).t t).rel ι (a.tmps.getD t undef):=by
 intro t ht
 by_cases hex:∃j,j<ops.size∧BL ops j=some t
 ·obtain ⟨j,hj,hd⟩:=hex
  rcases hok.look i o t j hin ho ht hj hd with ⟨hji,hbij⟩ | ⟨hij,hbji⟩
  ·have hlj:=hb j hbij
   rw [hl.slot' (i:=j+1) O_ (Nat.le_of_lt hin) (fun l h1 h2 hd'=>by have:=hok.uniq l j t O_ hj hd' hd;omega)]
   exact h.hit j hj hlj t hd
  ·have hnl:listed.getD j false≠true:=fun hlt=>by
    have:=Dm h.head.closed hbji (Array.getElem?_eq_getElem hj) (h.head.closed j _ (Array.getElem?_eq_getElem hj) hlt)
    rw [hun] at this;cases this
   rw [h.miss t (fun j' hj' hl' hd'=>hnl (by rw [←hok.uniq j' j t hj' hj hd' hd];exact hl')),hl.slot' (i:=0) (Nat.zero_le i) (Nat.le_of_lt hin) (fun l _ h2 hd'=>by have:=hok.uniq l j t O_ hj hd' hd;omega)]
   exact AV.rel_mono h.le (hf.rel t)
 ·have hno:∀j,j<ops.size→BL ops j≠some t:=fun j hj hd=>hex ⟨j,hj,hd⟩
  rw [h.miss t (fun j hj _=>hno j hj),hl.slot' (i:=0) (Nat.zero_le i) (Nat.le_of_lt hin) (fun l _ h2=>hno l O_)]
  exact AV.rel_mono h.le (hf.rel t)
theorem UX.next{k:Nat}{ι0:Emb}{w0:World}{a0:Act}(hok:mS ops ops.size a0.tmps.size){listed:Array Bool}{ι ι':Emb}{a:Act}{w:World}(h:UX ops A k ι0 w0 a0 listed ι a w)(hle:ι.le ι')
  {i:Nat} (hi:i∈Region.ready .any ops listed) {o:Oper} (ho:ops[i]?=some o) {u:Value} {w':World}
  (hcut:∃j,j≤ops.size∧(∀i' o,ops[i']?=some o→BG o=true→((listed.setIfInBounds i true).getD i' false=true↔i'<j))∧Step k ι0 (A 0).m w0 ι' (A j).m w')
  (hu:∀d,o.dst=some d→((A (i+1)).t d).rel ι' u):UX ops A k ι0 w0 a0 (listed.setIfInBounds i true) ι' (a.put o.dst u) w':=by
 have hin:i<ops.size:=(Array.getElem?_eq_some_iff.1 ho).1
 have his:i<listed.size:=by rw [h.head.size];exact hin
 have hd:BL ops i=o.dst:=by simp [BL,ho]
 have hset:∀j,(listed.setIfInBounds i true).getD j false=true→j=i∨listed.getD j false=true:=fun j hj=>by
  by_cases hji:i=j
  ·exact .inl hji.symm
  ·rw [getD_set_ne false hji] at hj;exact .inr hj
 have hseti:(listed.setIfInBounds i true).getD i false=true:=by simp [his]
 refine ⟨hcut,⟨fun b l hb=>hle.f b l (h.le.f b l hb),fun c o v hc=>hle.tx c o v (h.le.tx c o v hc)⟩,fun j hj hlj d hdj=>?_,fun t ht=>?_,by rw [show (a.put o.dst u).tmps.size=a.tmps.size by cases o.dst<;>simp [Act.put]];exact h.size,by rw [show (a.put o.dst u).defers=a.defers by cases o.dst<;>rfl];exact h.defers,h.head.set hi hin⟩
 ·by_cases hji:j=i
  ·subst hji
   rw [hd] at hdj
   rw [hdj,O5 a d d u (by rw [h.size];exact hok.lt j d hj (by rw [hd];exact hdj)),if_pos rfl]
   exact hu d hdj
  ·have hlj':=(hset j hlj).resolve_left hji
   have hne:o.dst≠some d:=fun e=>hji (hok.uniq j i d hj hin hdj (by rw [hd];exact e))
   rw [Jo a u hne]
   exact AV.rel_mono hle (h.hit j hj hlj' d hdj)
 ·have h1:o.dst≠some t:=by rw [←hd];exact ht i hin hseti
  rw [Jo a u h1]
  exact h.miss t fun j hj hlj=>ht j hj (getD_set_true hlj)
theorem yn{ι:Emb}{n:Nat}{w:World}(h:∀b,n≤b→ι b=none)(ht:∀c Φ,Il ι c Φ→ ∃ob,w.heap[c]?=some ob∧Φ ob):R ι (Gp n) w:=by
 have no:∀(b:Nat) (own:Bool) (x:Arr),(Gp n)[b]?=some (.row own x)→False:=fun b own x hb=>by
  unfold Gp at hb
  rw [List.getElem?_replicate] at hb
  split at hb<;>cases hb
 exact ⟨fun b hb=>h b (by simpa [Gp] using hb),fun b l own x _ hm=>(no _ _ _ hm).elim,fun b b' l l' own own' x x' _ _ _ hm _ _=>(no _ _ _ hm).elim,fun c Φ hc=>⟨ht c Φ hc,fun b l x _ hm _=>(no _ _ _ hm).elim⟩⟩
theorem UX.run{Q':Exit→Act→World→Prop}(hl:Ge P ops A V N0){k:Nat}{ι0:Emb}{w0:World}{a0:Act}(hS:OkS ops a0.tmps.size)(hf:DT ι0 (A 0) a0)(_hR0:R ι0 (A 0).m w0)(hk:k≤(A 0).m.length){listed:Array Bool}{ι:Emb}{a:Act}{w:World}(h:UX ops A k ι0 w0 a0 listed ι a w)
  {i:Nat} (hi:i∈Region.ready .any ops listed) {K:Act→World→Prop} (hK:∀ι' a' w',UX ops A k ι0 w0 a0 (listed.setIfInBounds i true) ι' a' w'→K a' w'):wpOp P ops Q' i K a w:=by
 have hok:=hS.ok
 have hr:=mem_ready.1 hi
 have hun:listed.getD i false=false:=getD_both hr.1
 obtain ⟨_,o,ho,hall⟩:=hr
 have hin:i<ops.size:=(Array.getElem?_eq_some_iff.1 ho).1
 have hdeps:∀j,Te ops i j=true→listed.getD j false=true:=fun j hb=>Dm h.head.closed hb ho hall
 have hag:=h.agree hl hok hf hin ho hdeps hun
 have hopnd:∀x∈o.op.operands,(AC (A i).t x).rel ι (a.eval x):=by
  intro x hx
  cases x with
  |tmp t=>exact hag t (List.mem_append_left _ (List.mem_filterMap.2 ⟨.tmp t,by simpa using hx,rfl⟩))
  |const v=>exact AV.rel_of0 (Ox _ v)
  |global g=>trivial
  |func f=>rfl
 obtain ⟨c,hc,hcl,hst⟩:=h.cut
 have his:i<listed.size:=by rw [h.head.size];exact hin
 unfold wpOp
 simp only [ho]
 rw [show Region.wanted o (yielded ops a.tmps)=true by unfold Region.wanted;rw [hS.guard i o ho],if_pos rfl]
 refine .inl ?_
 cases hs:BG o with
 |false=>
  obtain ⟨hv,hstep⟩:=hl.pure i o ho hs
  have hv:(∃Mk:Ak,R ι Mk w∧AL P (AC (A i).t) Mk o.op=some (V i))∨(early ops i=true∧O7 P (.op o.op (AC (A i).t) (A 0).m) (.val (V i) (A 0).m)):=by
   rcases hv with hv | hv | ⟨Mk,h1,h2⟩
   ·exact .inl ⟨_,yn (fun b hb=>hst.r.dom b (by rw [hl.len c hc];exact hb)) (fun c Φ hc=>(hst.r.stay c Φ (hc.to _)).1),hv⟩
   ·exact .inr hv
   ·exact .inl ⟨Mk,h1 c hc _ _ hst.r,h2⟩
  rcases hv with ⟨Mk,hRk,hv⟩ | ⟨he,hsound⟩
  rotate_left
  ·have hno:∀l o',l<c→ops[l]?=some o'→BG o'=false:=fun l o' h2 ho'=>by
    cases hs':BG o' with
    |false=>rfl
    |true=>
     have hll:=(hcl l o' ho' hs').2 h2
     have hln:l<ops.size:=(Array.getElem?_eq_some_iff.1 ho').1
     simp only [early,List.all_eq_true,List.mem_range] at he
     have hb:=he l hln
     simp only [ho',hs',Bool.not_true,Bool.false_or] at hb
     have:=Dm h.head.closed hb ho' (h.head.closed l o' ho' hll)
     rw [hun] at this;cases this
   have hm:(A c).m=(A 0).m:=hl.mem' (Nat.zero_le c) hc fun l o' _ h2 ho'=>hno l o' h2 ho'
   have hst':=hst
   rw [hm] at hst'
   refine (hsound o ι w a.eval rfl hst'.r hopnd).wp rfl fun u w' ι1 hv hst2=>?_
   have hst3:Step k ι0 (A 0).m w0 ι1 (A c).m w':=by rw [hm];exact hst'.comp (hst2.low hk)
   refine hK ι1 _ _ (h.next hok (hst2.le hst'.r) hi ho ⟨c,hc,fun i' o' ho' hs'=>?_,hst3⟩ fun d hd=>?_)
   ·have hne:i≠i':=fun e=>by subst e;rw [ho] at ho';cases ho';rw [hs] at hs';cases hs'
    rw [getD_set_ne false hne]
    exact hcl i' o' ho' hs'
   ·rw [hstep]
    show (Ce (A i).t o.dst (V i) d).rel _ _
    rw [hd]
    show (upd (A i).t d (V i) d).rel _ _
    rw [upd_eq]
    exact hv
  unfold Oper.wp
  obtain ⟨u,hu,hrel⟩:=OG hv hRk hopnd
  rw [hu]
  refine hK ι _ _ (h.next hok (.refl _) hi ho ⟨c,hc,fun i' o' ho' hs'=>?_,hst⟩ fun d hd=>?_)
  ·have hne:i≠i':=fun e=>by subst e;rw [ho] at ho';cases ho';rw [hs] at hs';cases hs'
   rw [getD_set_ne false hne]
   exact hcl i' o' ho' hs'
  ·rw [hstep]
   show (Ce (A i).t o.dst (V i) d).rel _ _
   rw [hd]
   show (upd (A i).t d (V i) d).rel _ _
   rw [upd_eq]
   exact hrel
 |true=>
  unfold Oper.wp
  obtain ⟨v,m',hv,hlen,hstep⟩:=hl.store i o ho hs
  have hci:c≤i:=by
   have:=(hcl i o ho hs).2
   rcases Nat.lt_or_ge i c with h' | h'
   ·rw [this h'] at hun;cases hun
   ·exact h'
  have hm:(A i).m=(A c).m:=by
   refine hl.mem' hci (Nat.le_of_lt hin) fun l o' h1 h2 ho'=>?_
   cases hs':BG o' with
   |false=>rfl
   |true=>
    have:=(hcl l o' ho' hs').1 (hdeps l (hS.chain l i o' o h2 ho' ho hs' hs))
    omega
  rw [←hm] at hst
  obtain ⟨u,w',ι',hrun,hrel,hst2⟩:=UL hv hst.r hopnd
  have hst3:Step k ι0 (A 0).m w0 ι' (A (i+1)).m w':=by
   rw [hstep]
   exact hst.comp (hst2.low (by rw [hl.len i (Nat.le_of_lt hin)];exact hk))
  have fin:∀u:Value,K (a.put o.dst u) w':=fun u=>by
   refine hK ι' _ _ (h.next hok (hst2.le hst.r) hi ho ⟨i+1,hin,fun i' o' ho' hs'=>?_,hst3⟩ fun d hd=>?_)
   ·by_cases hne:i=i'
    ·subst hne;simp [his]
    ·rw [getD_set_ne false hne]
     constructor
     ·intro hli
      rcases Nat.lt_or_ge i' (i+1) with h' | h'
      ·exact h'
      ·have:=Dm h.head.closed (hS.chain i i' o o' O_ ho ho' hs hs') ho' (h.head.closed i' o' ho' hli)
       rw [hun] at this;cases this
     ·intro hlt
      exact hdeps i' (hS.chain i' i o' o O_ ho' ho hs' hs)
   ·rw [hS.dst i o ho hs] at hd;cases hd
  rcases hrun with hrun | ⟨hrun,rfl⟩
  ·rw [hrun];exact fin u
  ·rw [hrun];exact fin undef
theorem UX.any{Q':Exit→Act→World→Prop}(hl:Ge P ops A V N0){k:Nat}{ι0:Emb}{w0:World}{a0:Act}(hS:OkS ops a0.tmps.size)(hf:DT ι0 (A 0) a0)(hR0:R ι0 (A 0).m w0)(hk:k≤(A 0).m.length)
  (hQ:∀ι' a' w',DT ι' (A ops.size) a'→a'.defers=a0.defers→Step k ι0 (A 0).m w0 ι' (A ops.size).m w'→Q' .normal a' w'):
  ∀(f:Nat) (un:List Nat) (listed:Array Bool) (ι:Emb) (a:Act) (w:World),un.length=f→un.Nodup→(∀j,j∈un↔j<ops.size∧listed.getD j false=false)→UX ops A k ι0 w0 a0 listed ι a w→wpAny P .any ops Q' f listed a w:=by
 have hok:=hS.ok
 intro f
 induction f with
 |zero=>
  intro un listed ι a w hlu _ hun h
  obtain rfl:un=[]:=List.length_eq_zero_iff.1 hlu
  have hdone:∀j,j<ops.size→listed.getD j false=true:=fun j hj=>by
   cases hb:listed.getD j false with
   |true=>rfl
   |false=>have:=(hun j).2 ⟨hj,hb⟩;simp at this
  have hnil:Region.ready .any ops listed=[]:=by
   cases hr:Region.ready .any ops listed with
   |nil=>rfl
   |cons x xs=>
    have hx:x∈Region.ready .any ops listed:=by rw [hr];exact List.mem_cons_self
    obtain ⟨h1,o,ho,_⟩:=mem_ready.1 hx
    have:=hdone x (Array.getElem?_eq_some_iff.1 ho).1
    rw [getD_both h1] at this;cases this
  refine ⟨hnil,?_⟩
  obtain ⟨c,hc,hcl,hst⟩:=h.cut
  have hm:(A ops.size).m=(A c).m:=by
   refine hl.mem' hc (Nat.le_refl _) fun l o' h1 h2 ho'=>?_
   cases hs':BG o' with
   |false=>rfl
   |true=>have:=(hcl l o' ho' hs').1 (hdone l h2);omega
  rw [←hm] at hst
  have hnn:(A ops.size).n=N0:=by
   cases hz:ops.size with
   |zero=>exact hl.h0
   |succ z=>
    have hlt:z<ops.size:=by omega
    have ho:ops[z]?=some (ops[z]'hlt):=Array.getElem?_eq_getElem hlt
    cases hs:BG (ops[z]'hlt) with
    |true=>obtain ⟨v,m',_,_,e⟩:=hl.store z _ ho hs;rw [e]
    |false=>obtain ⟨_,e⟩:=hl.pure z _ ho hs;rw [e]
  refine hQ ι a w ⟨by rw [h.size,hf.size,hl.h0,hnn],fun t=>?_⟩ h.defers hst
  by_cases hex:∃j,j<ops.size∧BL ops j=some t
  ·obtain ⟨j,hj,hd⟩:=hex
   rw [hl.slot' (i:=j+1) O_ (Nat.le_refl _) (fun l h1 h2 hd'=>by have:=hok.uniq l j t O_ hj hd' hd;omega)]
   exact h.hit j hj (hdone j hj) t hd
  ·have hno:∀j,j<ops.size→BL ops j≠some t:=fun j hj hd=>hex ⟨j,hj,hd⟩
   rw [h.miss t (fun j hj _=>hno j hj),hl.slot' (i:=0) (Nat.zero_le _) (Nat.le_refl _) (fun l _ h2=>hno l O_)]
   exact AV.rel_mono h.le (hf.rel t)
 |succ f ih=>
  intro un listed ι a w hlu hnd hun h
  refine ⟨fun hnil=>?_,fun i hi=>?_⟩
  ·obtain ⟨i0,hi0⟩:∃i0,i0∈un:=by cases un with | nil=>simp at hlu | cons x _=>exact ⟨x,List.mem_cons_self⟩
   have least:∀m i,i≤m→i∈un→ ∃j,j∈Region.ready .any ops listed:=by
    intro m
    induction m with
    |zero=>
     intro i him hiu
     obtain ⟨hin,hb⟩:=(hun i).1 hiu
     refine ⟨i,mem_ready.2 ⟨getD_in (by rw [h.head.size];exact hin) hb,ops[i]'hin,Array.getElem?_eq_getElem hin,fun e he hbind=>?_⟩⟩
     have:=hS.back i _ e (Array.getElem?_eq_getElem hin) he hbind
     omega
    |succ m ihm=>
     intro i him hiu
     obtain ⟨hin,hb⟩:=(hun i).1 hiu
     by_cases hall:∀e∈(ops[i]'hin).after,Region.binds .any e=true→listed.getD e.on false=true
     ·exact ⟨i,mem_ready.2 ⟨getD_in (by rw [h.head.size];exact hin) hb,_,Array.getElem?_eq_getElem hin,hall⟩⟩
     ·have:∃e∈(ops[i]'hin).after,Region.binds .any e=true∧listed.getD e.on false=false:=by
       apply Classical.byContradiction
       intro hc
       apply hall
       intro e he hbind
       cases hlb:listed.getD e.on false with
       |true=>rfl
       |false=>exact absurd ⟨e,he,hbind,hlb⟩ hc
      obtain ⟨e,he,hbind,hlb⟩:=this
      have hlt:=hS.back i _ e (Array.getElem?_eq_getElem hin) he hbind
      exact ihm e.on O_ ((hun e.on).2 ⟨by omega,hlb⟩)
   obtain ⟨j,hj⟩:=least i0 i0 (Nat.le_refl _) hi0
   rw [hnil] at hj;cases hj
  ·obtain ⟨hun0,o,ho,_⟩:=mem_ready.1 hi
   have hin:i<ops.size:=(Array.getElem?_eq_some_iff.1 ho).1
   refine h.run hl hS hf hR0 hk hi fun ι' a' w' h'=>?_
   have himem:i∈un:=(hun i).2 ⟨hin,getD_both hun0⟩
   refine ih (un.erase i) _ ι' a' w' (by rw [List.length_erase_of_mem himem,hlu];rfl) (hnd.erase i) (fun j=>?_) h'
   rw [hnd.mem_erase_iff,hun j]
   by_cases hji:j=i
   ·subst hji
    have his:j<listed.size:=by rw [h.head.size];exact hin
    simp [his]
   ·rw [getD_set_ne false (fun e=>hji e.symm)]
    simp [hji]
theorem Ro {Q : Exit → Act → World → Prop} {id k : Nat} (hm : P.follows .mixedOrders = true) (hl : Ge P ops A V (A 0).n) (hall : Region.okStores ops (A 0).n = true) {ι : Emb} {w : World} {a : Act} (hf : DT ι (A 0) a) (hR : R ι (A 0).m w) (hk : k ≤ (A 0).m.length)
    (hQ : ∀ ι' a' w', DT ι' (A ops.size) a' → a'.defers = a.defers → Step k ι (A 0).m w ι' (A ops.size).m w' → Q .normal a' w') : (Code.region id ops true).wp P Q a w := by
  refine wp_region_any hm ?_
  have hRd : R ι (A 0).m w.drew := ⟨hR.dom, hR.rows, hR.inj, hR.stay⟩
  have hinv : UX ops A k ι w.drew a (Array.replicate ops.size false) ι a w.drew :=
    ⟨⟨0, Nat.zero_le _, fun i o _ _ => by rw [getD_replicate_false]; simp, Step.refl hRd hk⟩, .refl _, fun j _ hl => (by rw [getD_replicate_false] at hl; cases hl), fun _ _ => rfl, rfl, rfl,
      ⟨by simp, fun j oj _ hl => (by rw [getD_replicate_false] at hl; cases hl), fun t ht ht' => by omega⟩⟩
  exact UX.any (Q' := Q) hl (Region.okStores_spec (by rw [hf.size]; exact hall)) hf hRd hk
    (fun ι' a' w' h1 h2 h3 => hQ ι' a' w' h1 h2 ⟨h3.r, ⟨h3.trans.os, h3.trans.tape, h3.trans.output, h3.trans.size, h3.trans.keep, h3.trans.fresh⟩, h3.tx, h3.txn, h3.ext, h3.len, h3.ro, h3.old, h3.news⟩) ops.size (List.range ops.size) _ _ _ _ (by simp) List.nodup_range (fun j => by rw [getD_replicate_false]; simp) hinv
end
theorem IF(ι ι':Emb)(ht:∀c o v,ι.tx c o v→ι'.tx c o v):Same MG ι ι':=⟨fun _ _ h=>by (cases h),ht⟩
theorem UQ.rel{ρ:Nat→Option Nat}{ι ι':Emb}(ht:∀c o v,ι.tx c o v→ι'.tx c o v)(hs:∀j i,ρ j=some i→ι' j=ι i){x y:Cell}(h:UQ ρ x y){v:Value}(hr:x.rel ι v):y.rel ι' v:=by
 cases h with
 |same h=>rw [←h];exact Cell.ren_rel (IF ι ι' ht) hr
 |ptr h=>obtain ⟨l,hl,rfl⟩:=hr;exact ⟨l,by rw [hs _ _ h];exact hl,rfl⟩
 |sl h=>
  obtain ⟨p,cap',rfl,h1,h2,h3⟩:=hr
  refine ⟨p,cap',rfl,h1,h2,h3.imp id ?_⟩
  rintro ⟨l,hl,r⟩
  exact ⟨l,by rw [hs _ _ h];exact hl,r⟩
 |nil=>simp only [Cell.rel] at hr;subst hr;exact ⟨none,0,rfl,Nat.le_refl _,Nat.le_refl _,.inl rfl⟩
 |emp=>obtain ⟨p,rfl⟩:=hr;exact ⟨p,0,rfl,Nat.le_refl _,Nat.le_refl _,.inl rfl⟩
theorem R2.rel{ρ:Nat→Option Nat}{ι ι':Emb}(ht:∀c o v,ι.tx c o v→ι'.tx c o v)(hs:∀j i,ρ j=some i→ι' j=ι i){l m:List AV}(h:R2 ρ l m):∀ {vs:List Value},Cb ι l vs→Cb ι' m vs:=by
 induction h with
 |nil=>intro vs hr;cases vs with
  |nil=>trivial
  |cons v vs=>exact hr.elim
 |c h _ ih=>intro vs hr;cases vs with
  |nil=>exact hr.elim
  |cons v vs=>exact ⟨h.rel ht hs hr.1,ih hr.2⟩
 |@agg x l m h _ ih=>intro vs hr;cases vs with
  |nil=>exact hr.elim
  |cons v vs=>
   refine ⟨?_,ih hr.2⟩
   have:=AV.ren_rel (IF ι ι' ht) hr.1
   rwa [show AV.ren MG (.agg x)= .agg x from congrArg AV.agg h] at this
section
variable {ρ:Nat→Option Nat} {m m' N:Ak} {ι:Emb} {w:World}
def IX(ρ:Nat→Option Nat)(ι:Emb):Emb:=⟨fun j=>(ρ j).bind ι,ι.tx⟩
theorem xC(hρ:∀j i,ρ j=some i→j<m'.length∧ ∃own x,m[i]?=some (.row own x)∧m'[j]?=some (.row false x)∧x.ren MG=x)(hR:R ι m w):R (IX ρ ι) m' w:=by
 have at_:∀b l,IX ρ ι b=some l→ ∃i,ρ b=some i∧ι i=some l:=fun b l h=>Option.bind_eq_some_iff.1 h
 refine ⟨fun b hb=>?_,fun b l own x h1 h2=>?_,fun b b' l l' own own' x x' _ h1 h1' h2 h2' ho=>?_,fun c Φ hc=>⟨(hR.stay c Φ (hc.to ι)).1,fun b l x h1 h2 _=>?_⟩⟩
 ·cases hv:IX ρ ι b with
  |none=>rfl
  |some l=>obtain ⟨i,hi,_⟩:=at_ b l hv;have:=(hρ b i hi).1;omega
 ·obtain ⟨i,hi,hl⟩:=at_ b l h1
  obtain ⟨_,o,y,g1,g2,g3⟩:=hρ b i hi
  rw [g2] at h2;cases h2
  have:=(hR.rows i l o _ hl g1).ro.ren (IF ι (IX ρ ι) fun _ _ _ h=>h)
  rwa [g3] at this
 ·obtain ⟨i,hi,_⟩:=at_ b l h1
  obtain ⟨i',hi',_⟩:=at_ b' l' h1'
  obtain ⟨_,_,_,_,g2,_⟩:=hρ b i hi
  obtain ⟨_,_,_,_,g2',_⟩:=hρ b' i' hi'
  rw [g2] at h2;cases h2
  rw [g2'] at h2';cases h2'
  rcases ho with h | h<;>cases h
 ·obtain ⟨i,hi,_⟩:=at_ b l h1
  obtain ⟨_,_,_,_,g2,_⟩:=hρ b i hi
  rw [g2] at h2;cases h2
theorem lG(hρ:∀j i,ρ j=some i→j<m'.length∧ ∃own x,m[i]?=some (.row own x)∧m'[j]?=some (.row false x)∧x.ren MG=x)(hR:R ι m w){ι1:Emb}{w':World}(h:Step m'.length (IX ρ ι) m' w ι1 (m'++N) w'):
  ∃ι2:Emb,Same (If ρ m'.length m.length) ι1 ι2∧Step m.length ι m w ι2 (m++N.map (Row.ren (If ρ m'.length m.length))) w':=by
 have unown:∀c,C5 (IX ρ ι) m' c→False:=by
  rintro c ⟨b,l,x,h1,h2,_⟩
  obtain ⟨i,hi,_⟩:=Option.bind_eq_some_iff.1 h1
  obtain ⟨_,_,_,_,g2,_⟩:=hρ b i hi
  rw [g2] at h2;cases h2
 let ι2:Emb:=⟨fun b=>if b<m.length then ι b else ι1 (b-m.length+m'.length),ι1.tx⟩
 have lo:∀ {b},b<m.length→ι2 b=ι b:=fun hb=>if_pos hb
 have hi:∀ {b},m.length≤b→ι2 b=ι1 (b-m.length+m'.length):=fun hb=>if_neg O_
 have hle:ι.le ι2:=by
  refine ⟨fun b l hb=>?_,h.tx⟩
  have:b<m.length:=by
   rcases Nat.lt_or_ge b m.length with h' | h'
   ·exact h'
   ·rw [hR.dom b h'] at hb;cases hb
  rw [lo this];exact hb
 have same:Same (If ρ m'.length m.length) ι1 ι2:=by
  refine ⟨fun j i hj=>?_,fun _ _ _ h=>h⟩
  unfold If at hj
  split at hj
  ·rename_i hlt
   obtain ⟨_,o,x,g1,_,_⟩:=hρ j i hj
   rw [lo (List.getElem?_eq_some_iff.1 g1).1,h.ext j hlt]
   unfold IX
   dsimp only
   rw [hj];rfl
  ·rename_i hge
   cases hj
   rw [hi O_]
   congr 1
   omega
 have old:∀ {b own x},b<m.length→(m++N.map (Row.ren (If ρ m'.length m.length)))[b]?=some (.row own x)→m[b]?=some (.row own x):=fun {b own x} hb hm=>by rw [List.getElem?_append_left hb] at hm;exact hm
 have new:∀ {b own x},m.length≤b→(m++N.map (Row.ren (If ρ m'.length m.length)))[b]?=some (.row own x)→ ∃y,(m'++N)[b-m.length+m'.length]?=some (.row own y)∧x=y.ren (If ρ m'.length m.length):=fun {b own x} hb hm=>by
  rw [List.getElem?_append_right hb,List.getElem?_map] at hm
  obtain ⟨r,hr,e⟩:=Option.map_eq_some_iff.1 hm
  obtain ⟨y,rfl,hy⟩:=Uo e
  refine ⟨y,?_,hy⟩
  rw [List.getElem?_append_right O_,show b-m.length+m'.length-m'.length=b-m.length by omega]
  exact hr
 have far:∀ {b l own x},m.length≤b→ι2 b=some l→(m++N.map (Row.ren (If ρ m'.length m.length)))[b]?=some (.row own x)→w.heap.size≤l.c:=fun {b l own x} hb hl hm=>by
  obtain ⟨y,hy,_⟩:=new hb hm
  rw [hi hb] at hl
  rcases h.news _ l own y O_ hl hy with h3 | h3 | ⟨b0,l0,o0,x0,h4,h5,h6,_⟩
  ·exact h3
  ·exact (unown _ h3).elim
  ·exact (H9 h4 h6).elim
 refine ⟨ι2,same,⟨⟨fun b hb=>?_,fun b l own x hb hm=>?_,fun b b' l l' own own' x x' hne hb hb' hm hm' hoo=>?_,fun c Φ hc=>⟨(h.r.stay c Φ (hc.to ι1)).1,fun b l x hb hm e=>?_⟩⟩,⟨h.trans.os,h.trans.tape,h.trans.output,h.trans.size,fun c hc _=>h.trans.keep c hc (unown c),fun c hc=>?_⟩,h.tx,fun c o v hc=>(h.txn c o v hc).imp id (.imp id fun h=>(unown _ h).elim),fun b hb=>lo hb,by simp,fun b x hb hm=>by rw [List.getElem?_append_left hb];exact hm,fun b own x hb hm=>⟨x,old hb hm⟩,fun b l own x hb h1 h2=> .inl (far hb h1 h2)⟩⟩
 ·rw [List.length_append,List.length_map] at hb
  rw [hi O_]
  exact h.r.dom _ (by rw [List.length_append];omega)
 ·rcases Nat.lt_or_ge b m.length with hs | hs
  ·rw [lo hs] at hb
   exact (hR.rows b l own x hb (old hs hm)).heap (h.trans.keep l.c (hR.lt hb (old hs hm)) (unown _)) hle
  ·obtain ⟨y,hy,rfl⟩:=new hs hm
   rw [hi hs] at hb
   exact (h.r.rows _ l own y hb hy).ren same
 ·rcases Nat.lt_or_ge b m.length with hs | hs<;>rcases Nat.lt_or_ge b' m.length with hs' | hs'
  ·rw [lo hs] at hb
   rw [lo hs'] at hb'
   exact hR.inj b b' l l' own own' x x' hne hb hb' (old hs hm) (old hs' hm') hoo
  ·rw [lo hs] at hb
   have h1:=hR.lt hb (old hs hm)
   have h2:=far hs' hb' hm'
   omega
  ·rw [lo hs'] at hb'
   have h1:=hR.lt hb' (old hs' hm')
   have h2:=far hs hb hm
   omega
  ·obtain ⟨y,hy,_⟩:=new hs hm
   obtain ⟨y',hy',_⟩:=new hs' hm'
   rw [hi hs] at hb
   rw [hi hs'] at hb'
   exact h.r.inj _ _ l l' own own' y y' O_ hb hb' hy hy' hoo
 ·rcases Nat.lt_or_ge b m.length with hs | hs
  ·rw [lo hs] at hb
   rcases h.stayn (hc.to ι1) with h3 | h3 | h3
   ·exact (hR.stay c Φ (h3.to ι)).2 b l x hb (old hs hm) e
   ·have:=hR.lt hb (old hs hm);omega
   ·exact unown _ h3
  ·obtain ⟨y,hy,_⟩:=new hs hm
   rw [hi hs] at hb
   exact (h.r.stay c Φ (hc.to ι1)).2 _ l y hb hy e
 ·obtain ⟨b,l,x,hb,hm,rfl⟩:=hc
  rcases Nat.lt_or_ge b m.length with hs | hs
  ·rw [lo hs] at hb
   exact .inr ⟨b,l,x,hb,old hs hm,rfl⟩
  ·exact .inl (far hs hb hm)
end
theorem YA{f:BitVec 64→BitVec 64→BitVec 64→AV}{l:List AV}{v:AV}(h:dZ f l=some v):∃x y z:BitVec 64,l=[.c (.val (BW x)),.c (.val (BW y)),.c (.val (BW z))]∧z.toNat≤1∧v=f x y z:=by
 unfold dZ at h
 split at h
 ·rename_i a b c
  split at h
  ·rename_i x y z hx hy hz
   split at h
   ·rename_i hc
    cases h
    rw [MD hx,MD hy,MD hz]
    exact ⟨x,y,z,rfl,hc,rfl⟩
   ·cases h
  ·cases h
 ·cases h
theorem qW(P:Program)(x y c:BitVec 64)(hc:c.toNat≤1)(w:World):(add64Entry #[BW x,BW y,BW c]).run P w= .ok (.tuple #[BW (x+y+c),BW (Cw x y c)]) w:=by
 have hx:=x.isLt;have hy:=y.isLt
 have h:=run_add64 (P:=P) (x.toNat:Int) (y.toNat:Int) (c.toNat:Int) O_ O_ O_ O_ w
 have e1:((x.toNat:Int)+(y.toNat:Int)+(c.toNat:Int))%18446744073709551616=tn (x+y+c):=by
  unfold tn;simp only [BitVec.toNat_add];omega
 have e2:((x.toNat:Int)+(y.toNat:Int)+(c.toNat:Int))/18446744073709551616=tn (Cw x y c):=by
  unfold tn Cw;rw [BitVec.toNat_ofNat];omega
 rw [e1,e2] at h
 exact h
theorem nj(P:Program)(x y c:BitVec 64)(hc:c.toNat≤1)(w:World):(sub64Entry #[BW x,BW y,BW c]).run P w= .ok (.tuple #[BW (x-y-c),BW (IN x y c)]) w:=by
 have hx:=x.isLt;have hy:=y.isLt
 have key:∀k:Nat,k≤1→(sub64Entry #[.int .u64 (x.toNat:Int),.int .u64 (y.toNat:Int),.int .u64 (k:Int)]).run P w=
   .ok (Extern.MathBitsCarry.pair ((x.toNat+Extern.MathBitsCarry.m64-y.toNat-k)%Extern.MathBitsCarry.m64) (if x.toNat<y.toNat+k then 1 else 0)) w:=by
  intro k hk
  have:k=0∨k=1:=by omega
  rcases this with rfl | rfl<;>rfl
 have h:=key c.toNat hc
 have e1:(x.toNat+Extern.MathBitsCarry.m64-y.toNat-c.toNat)%Extern.MathBitsCarry.m64=(x-y-c).toNat:=by
  simp only [Extern.MathBitsCarry.m64,BitVec.toNat_sub]
  omega
 have e2:(if x.toNat<y.toNat+c.toNat then 1 else 0)=(IN x y c).toNat:=by
  unfold IN;split<;>rfl
 rw [e1,e2] at h
 exact h
theorem cN{P:Program}{c:Call}{e:Operand→AV}{ρ:Operand→Value}{O:Oper}{f:FuncId}{E:Array Value→Sem Value}(hO:O.op= .call c)(hc:c.callee= .value (.func f))(he:e (.func f)= .c (.val (.func (.func f) #[] #[])))(hf:Wb P f E){ι:Emb}{m:Ak}{w:World}(hR:R ι m w)
  (hρ:∀x∈(Op.call c).operands,(e x).rel ι (ρ x)) {v:AV} {u:Value} (hu:(E (c.args.map ρ)).run P w= .ok u w) (hv:v.rel ι u):Th P ρ O ι m w v m:=by
 obtain ⟨fn,h1,h2,h3,h4,h5⟩:=hf.h
 have hfv:ρ (.func f)= .func (.func f) #[] #[]:=by
  have:=hρ (.func f) (by simp [Op.operands,Call.operands,hc])
  rw [he] at this
  exact this
 refine .inl ⟨u,w,ι,.inl ?_,hv,Step.refl hR (Nat.le_refl _)⟩
 have hcall:=run_callFunc_extern (P:=P) h1 h2 h3 h4 h5 (c.args.map ρ) w
 simp [execOp,hO,resolve,hc,hfv,Deferred.ofValue,invoke,hcall,hu]
theorem um{ι:Emb}{e:Operand→AV}{ρ:Operand→Value}{c:Call}(hρ:∀x∈(Op.call c).operands,(e x).rel ι (ρ x)){x y z:Value}(h:c.args.toList.map e=[.c (.val x),.c (.val y),.c (.val z)]):c.args.map ρ= #[x,y,z]:=by
 have hm:∀o∈c.args.toList,(e o).rel ι (ρ o):=fun o ho=>hρ o (by simp [Op.operands,Call.operands];exact .inr (by simpa using ho))
 apply Array.ext'
 rw [Array.toList_map]
 generalize c.args.toList=l at*
 obtain ⟨a,b,d,rfl⟩:∃a b d,l=[a,b,d]:=by
  have hl:l.length=3:=by have:=congrArg List.length h;simpa using this
  cases l with
  |nil=>simp at hl
  |cons a l=>cases l with
   |nil=>simp at hl
   |cons b l=>cases l with
    |nil=>simp at hl
    |cons d l=>cases l with
     |nil=>exact ⟨a,b,d,rfl⟩
     |cons _ _=>simp at hl
 ·simp only [List.map_cons,List.map_nil,List.cons.injEq,and_true] at h
  obtain ⟨h1,h2,h3⟩:=h
  have k1:=hm a (by simp);rw [h1] at k1
  have k2:=hm b (by simp);rw [h2] at k2
  have k3:=hm d (by simp);rw [h3] at k3
  have k1':ρ a=x:=k1
  have k2':ρ b=y:=k2
  have k3':ρ d=z:=k3
  simp [k1',k2',k3']
theorem UA{ρr:Nat→Option Nat}{ι ι':Emb}(hs:Same ρr ι ι'){e:Operand→AV}{ρ:Operand→Value}:∀(l:List Operand),(∀x∈l,(e x).rel ι (ρ x))→Cb ι' ((l.map e).map (AV.ren ρr)) (l.map ρ)
 |[],_=>trivial
 |x::l,h=>⟨AV.ren_rel hs (h x List.mem_cons_self),UA hs l fun y hy=>h y (List.mem_cons_of_mem _ hy)⟩
theorem RA{k:Nat}{roots:List AV}{M m:Ak}{vs:List AV}{ids:List Nat}(h:canon k roots M=some (vs,m,ids)):UG k M ids=true∧vs=roots.map (AV.ren (Gx k ids))∧m=EI k M ids:=by
 unfold canon at h
 simp only at h
 split at h
 ·rename_i hc;cases h;exact ⟨hc,rfl,rfl⟩
 ·cases h
theorem UB{ι:Emb}:∀ {l:List AV} {m:List Value},Cb ι l m→l.length=m.length
 |[],[],_=>rfl
 |a::l,v::m,h=>by simp [UB h.2]
 |[],_::_,h=>h.elim
 |_::_,[],h=>h.elim
theorem UF{ι:Emb}:∀ {l:List AV} {m:List Value},Cb ι l m→ ∀i:Nat,(l.getD i (.c .any)).rel ι (m.getD i undef)
 |[],[],_,i=>by simp;trivial
 |a::l,v::m,h,i=>by
  cases i with
  |zero=>simpa using h.1
  |succ i=>simpa using UF h.2 i
 |[],_::_,h,_=>h.elim
 |_::_,[],h,_=>h.elim
theorem Xl{ι:Emb}{a:Act}{ρr:Nat→Option Nat}:∀(keep:List Nat) (t:Nat→AV),(∀i∈keep,((t i).ren ρr).rel ι (a.tmps.getD i undef))→ ∀i,(AS keep ((keep.map t).map (AV.ren ρr)) i).rel ι (a.tmps.getD i undef)
 |[],_,_,i=>trivial
 |x::l,t,h,i=>by
  show (upd (AS l ((l.map t).map (AV.ren ρr))) x ((t x).ren ρr) i).rel ι _
  by_cases e:i=x
  ·subst e;rw [upd_eq];exact h i List.mem_cons_self
  ·rw [upd_ne _ _ e];exact Xl l t (fun j hj=>h j (List.mem_cons_of_mem _ hj)) i
theorem T6{k:Nat}{keep:List Nat}{s s1:St}(h:clean k keep s=some s1){ι:Emb}{w:World}{a:Act}(hR:R ι s.m w)(hf:DT ι s a):∃ι',DT ι' s1 a∧Step k ι s.m w ι' s1.m w∧k≤s1.m.length:=by
 unfold clean at h
 split at h
 ·rename_i vs m ids hc
  cases h
  obtain ⟨hok,rfl,rfl⟩:=RA hc
  have hst:=Jw hok hR
  refine ⟨Ei k ids ι,⟨hf.size,fun t=>?_⟩,hst,hst.len⟩
  exact Xl keep s.t (fun i _=>AV.ren_rel (MI k ids ι) (hf.rel i)) t
 ·cases h
theorem Y0{P:Program}{s:St}{r:ResultVar}{v:AV}(h:He P s r=some v){ι:Emb}{w:World}{a:Act}(hR:R ι s.m w)(hf:DT ι s a):
  ∃u,(match r with | .tmp t=>pure (a.tmps.getD t undef) | .cell p t=>do loadVar t (←asAddr (a.tmps.getD p undef)):Sem Value).run P w= .ok u w∧v.rel0 ι u:=by
 cases r with
 |tmp t=>
  refine ⟨a.tmps.getD t undef,rfl,?_⟩
  have:=hf.rel t
  unfold He at h
  split at h
  ·rename_i heq;cases heq
   split at h
   ·cases h
   ·rename_i hne
    cases h
    cases hst:s.t t with
    |c x=>rw [hst] at this;exact this
    |agg x=>rw [hst] at this;exact this
    |tup l=>exact absurd hst (hne l)
  ·rename_i heq;cases heq
 |cell p ty=>
  unfold He at h
  split at h
  ·rename_i heq;cases heq
  ·rename_i heq
   cases heq
   split at h
   ·rename_i b o hp
    split at h
    ·rename_i own x hm
     have:=hf.rel p
     rw [hp] at this
     obtain ⟨l,hb,hv⟩:=this
     obtain ⟨cs,t',fr,k1,k2,k3,k4⟩:=hR.cells hb hm (UR h)
     obtain ⟨u,hu,hr⟩:=JW h k1 k3
     refine ⟨u,?_,hr⟩
     show (do loadVar ty (←asAddr (a.tmps.getD p undef)):Sem Value).run P w=_
     rw [hv]
     simp only [asAddr,Sem.run_bind,Sem.run_pure,Result.andThen_ok,hu]
    ·cases h
   ·cases h
theorem QR{P:Program}{s:St}{ι:Emb}{w:World}{a:Act}(hR:R ι s.m w)(hf:DT ι s a):∀ {rs:List ResultVar} {vs:List AV},Gk P s rs=some vs→
  ∃us:List Value,(rs.mapM (fun r=>(match r with | .tmp t=>pure (a.tmps.getD t undef) | .cell p t=>do loadVar t (←asAddr (a.tmps.getD p undef)):Sem Value))).run P w= .ok us w∧us.length=vs.length∧ ∀(i:Nat) (x:AV) (u:Value),vs[i]?=some x→us[i]?=some u→x.rel0 ι u
 |[],vs,h=>by
  simp only [Gk,Option.some.injEq] at h
  subst h
  exact ⟨[],by simp,rfl,fun i x u h=>by simp at h⟩
 |r::l,vs,h=>by
  unfold Gk at h
  split at h
  ·rename_i v vs' hv hvs
   cases h
   obtain ⟨u,hu,hr⟩:=Y0 hv hR hf
   obtain ⟨us,hus,hl,hrs⟩:=QR hR hf hvs
   refine ⟨u::us,?_,by simp [hl],fun i x y hx hy=>?_⟩
   ·rw [List.mapM_cons]
    simp only [Sem.run_bind,hu,Result.andThen_ok,hus,Sem.run_pure]
   ·cases i with
    |zero=>simp at hx hy;subst hx;subst hy;exact hr
    |succ i=>exact hrs i x y (by simpa using hx) (by simpa using hy)
  ·cases h
theorem XE{P:Program}{fn:Func}{s:St}{vs:List AV}(h:Gk P s fn.results.toList=some vs){ι:Emb}{w:World}{a:Act}(hR:R ι s.m w)(hf:DT ι s a):∃u,(results fn a.tmps).run P w= .ok u w∧(uL vs).rel ι u:=by
 obtain ⟨us,hus,hl,hr⟩:=QR hR hf h
 have hmap:(fn.results.mapM (fun r=>(match r with | .tmp t=>pure (a.tmps.getD t undef) | .cell p t=>do loadVar t (←asAddr (a.tmps.getD p undef)):Sem Value))).run P w= .ok us.toArray w:=by
  have e:fn.results=fn.results.toList.toArray:=by simp
  rw [e,List.mapM_toArray,Sem.run_map,hus]
  rfl
 refine ⟨if h:us.toArray.size=1 then us.toArray[0] else .tuple us.toArray,?_,?_⟩
 ·unfold results
  rw [Sem.run_bind]
  erw [hmap]
  rfl
 ·match vs,us,hl,hr with
  |[v],[u],_,hr=>exact AV.rel_of0 (hr 0 v u rfl rfl)
  |[],[],_,_=>exact ⟨#[],rfl,rfl,fun i x u h=>by simp at h⟩
  |v::v'::vs,u::u'::us,hl,hr=>
   rw [dif_neg (by simp)]
   exact ⟨(u::u'::us).toArray,rfl,by simpa using hl,fun i x y hx hy=>hr i x y hx (by simpa using hy)⟩
theorem zx{ι:Emb}{args:List AV}{vs:Array Value}{n:Nat}(h:Cb ι args vs.toList)(hn:args.length≤n)(m:Ak):DT ι ⟨n,tN args,m⟩ { tmps:=vs++Array.replicate (n-vs.size) undef,defers:=[] }:=by
 have hl:=UB h
 refine ⟨by simp;rw [←Array.length_toList,←hl];omega,fun t=>?_⟩
 have hg:=UF h t
 show (args.getD t (.c .any)).rel ι _
 have e:(vs++Array.replicate (n-vs.size) undef).getD t undef=vs.toList.getD t undef:=by
  rw [Array.getD_eq_getD_getElem?,List.getD_eq_getElem?_getD,Array.getElem?_toList]
  by_cases ht:t<vs.size
  ·rw [Array.getElem?_append_left ht]
  ·rw [Array.getElem?_append_right O_,Array.getElem?_eq_none (show vs.size≤t by omega)]
   by_cases h2:t-vs.size<n-vs.size
   ·simp [h2]
   ·rw [Array.getElem?_eq_none (by simp;omega)]
 rw [e];exact hg
theorem sound{P:Program}{t:xB}{r:Res}(h:Ev P t r):O7 P t r:=by
 induction h with
 |val h=>
  intro O ι w ρ hO hR hρ
  subst hO
  obtain ⟨u,hu,hv⟩:=OG h hR hρ
  exact .inl ⟨u,w,ι,.inl hu,hv,Step.refl hR (Nat.le_refl _)⟩
 |mem h=>
  intro O ι w ρ hO hR hρ
  subst hO
  exact .inl (UL h hR hρ)
 |@fn c e m args mc bs v mc' f hc he hf hin h ih=>
  intro O ι w ρ hO hR hρ
  obtain ⟨hok,rfl,rfl⟩:=RA hin
  have hst:=Jw hok hR
  have hlen:(EI 0 m bs).length=bs.length:=by simp [EI]
  have hfv:ρ (.func f)= .func (.func f) #[] #[]:=by
   have:=hρ (.func f) (by simp [Op.operands,Call.operands,hc])
   rw [he] at this
   exact this
  have hargs:=UA (MI 0 bs ι) (e:=e) (ρ:=ρ) c.args.toList fun x hx=>hρ x (by simp [Op.operands,Call.operands];exact .inr (by simpa using hx))
  have hcall:=ih (Ei 0 bs ι) w (c.args.map ρ) hst.r (by rw [Array.toList_map];exact hargs)
  refine .inr ⟨f,c.args.map ρ,?_,hcall.mono fun e' w' hq=>?_⟩
  ·cases hfn:P.funcs[f]? with
   |none=>rw [hfn] at hf;cases hf
   |some fn=>
    rw [hfn] at hf
    simp only [Option.any_some,Bool.and_eq_true,Bool.not_eq_true'] at hf
    have h1:fn.body.isNone=false:=by have:=hf.1;cases hb:fn.body<;>simp_all
    have h2:(fn.name== "runtime.NumGoroutine")=false:=hf.2
    have h1':¬fn.body=none:=by intro e0;rw [e0] at h1;cases h1
    have h2':¬fn.name= "runtime.NumGoroutine" :=by simpa using h2
    simp [execOp,hO,resolve,hc,hfv,Deferred.ofValue,invoke,callFunc,hfn,h1',h2']
  ·obtain ⟨u,ι',rfl,hv,hs⟩:=hq
   rw [hlen] at hs
   obtain ⟨h1,h2⟩:=VQ hok hR hs hv
   exact ⟨u,_,rfl,h1,h2⟩
 |@add64 c e m v f hc he hf h=>
  intro O ι w ρ hO hR hρ
  obtain ⟨x,y,z,hl,hz,rfl⟩:=YA h
  have ha:=um hρ hl
  refine cN hO hc he hf hR hρ (u:= .tuple #[BW (x+y+z),BW (Cw x y z)]) (by rw [ha];exact qW P x y z hz w) ⟨#[BW (x+y+z),BW (Cw x y z)],rfl,rfl,fun i a u hi hu=>?_⟩
  match i,hi,hu with
  |0,hi,hu=>cases hi;cases hu;rfl
  |1,hi,hu=>cases hi;cases hu;rfl
  |i+2,hi,hu=>simp at hi
 |@sub64 c e m v f hc he hf h=>
  intro O ι w ρ hO hR hρ
  obtain ⟨x,y,z,hl,hz,rfl⟩:=YA h
  have ha:=um hρ hl
  refine cN hO hc he hf hR hρ (u:= .tuple #[BW (x-y-z),BW (IN x y z)]) (by rw [ha];exact nj P x y z hz w) ⟨#[BW (x-y-z),BW (IN x y z)],rfl,rfl,fun i a u hi hu=>?_⟩
  match i,hi,hu with
  |0,hi,hu=>cases hi;cases hu;rfl
  |1,hi,hu=>cases hi;cases hu;rfl
  |i+2,hi,hu=>simp at hi
 |nil=>exact fun _ ι w a hk hR hf Q hQ=>hQ ι a w hf rfl (Step.refl hR hk)
 |@cons k ops o l s v m' r hw hd h hk ih1 ih2=>
  intro _ ι w a hk' hR hf Q hQ
  have hwant:=Qf (fun d _=>hf.rel d) hw
  unfold wpList
  rw [if_pos hwant]
  refine .inl ((ih1 o ι w a.eval rfl hR fun x _=>bU hf x).wp rfl fun u w' ι' hv hst=>?_)
  have hf':DT ι' ⟨s.n,Ce s.t o.dst v,m'⟩ (a.put o.dst u):=(hf.mono (hst.le hR) s.m).put hd hv m'
  refine ih2 rfl ι' w' _ (Nat.le_trans hk' hst.len) hst.r hf' Q fun ι2 a2 w2 g1 g2 g3=>hQ ι2 a2 w2 g1 (by rw [g2];cases o.dst<;>rfl) ((hst.low hk').comp g3)
 |@skip k ops o l s r hw hd hk ih=>
  intro _ ι w a hk' hR hf Q hQ
  have hwant:=Qf (fun d _=>hf.rel d) hw
  unfold wpList
  rw [if_neg (by rw [hwant];simp)]
  exact ih rfl ι w _ hk' hR (hf.put (v:=mQ) (u:=undef) hd rfl s.m) Q fun ι2 a2 w2 g1 g2 g3=>hQ ι2 a2 w2 g1 (by rw [g2];cases o.dst<;>rfl) g3
 |region h ih=>
  intro ι w a hk' hR hf Q hQ
  exact wp_region_list (ih rfl ι w a hk' hR hf Q hQ)
 |@draw k id ops s r n A W V N hm hok hA hW hV hS hk ihV ihk=>
  intro ι w a hk' hR hf Q hQ
  subst hA
  have hn:n≤ops.size:=by
   simp only [Region.okAll,Bool.and_eq_true,decide_eq_true_eq] at hok
   exact hok.1.1.1.1
  exact gJ hm ⟨hn,rfl,hS⟩ hW ihV hok hf hR hk' fun ι' a' w' h1 h2 h3=>ihk rfl ι' w' a' h3.len h3.r h1 Q fun ι2 a2 w2 g1 g2 g3=>hQ ι2 a2 w2 g1 (g2.trans h2) (h3.comp g3)
 |@late k id ops s r n i0 A W V N hm hc hok hA hW hV hS hk ihV ihk=>
  intro ι w a hk' hR hf Q hQ
  subst hA
  have hn:n≤(BK ops n i0).size:=by
   simp only [Region.okAll,Bool.and_eq_true,decide_eq_true_eq] at hok
   exact hok.1.1.1.1
  exact fB hm hc ⟨hn,rfl,hS⟩ hW ihV hok hf hR hk' fun ι' a' w' h1 h2 h3=>ihk rfl ι' w' a' h3.len h3.r h1 (nrm Q) fun ι2 a2 w2 g1 g2 g3=>⟨rfl,hQ ι2 a2 w2 g1 (g2.trans h2) (h3.comp g3)⟩
 |@clean k c s s1 r keep hc h ih=>
  cases r with
  |val v m=>trivial
  |out e s'=>
   intro ι w a hk' hR hf Q hQ
   obtain ⟨ι',h1,h2,h3⟩:=T6 hc hR hf
   exact ih ι' w a h3 h2.r h1 Q fun ι2 a2 w2 g1 g2 g3=>hQ ι2 a2 w2 g1 g2 (h2.comp g3)
 |@weak k c s s1 r hw h ih=>
  cases r with
  |val v m=>trivial
  |out e s'=>
   intro ι w a hk' hR hf Q hQ
   obtain ⟨ι',h1,h2⟩:=hw ι w a hk' hR hf
   exact ih ι' w a h2.len h2.r h1 Q fun ι2 a2 w2 g1 g2 g3=>hQ ι2 a2 w2 g1 g2 (h2.comp g3)
 |sem h=>exact h
 |snd h=>exact h
 |semF h=>exact h
 |@tidy k c s e s1 s2 keep h hc ih=>
  intro ι w a hk' hR hf Q hQ
  refine ih ι w a hk' hR hf Q fun ι2 a2 w2 g1 g2 g3=>?_
  obtain ⟨ι',h1,h2,h3⟩:=T6 hc g3.r g1
  exact hQ ι' a2 w2 h1 g2 (g3.comp h2)
 |@ro o e m v N h ih=>
  intro O ι w ρ hO hR hρ
  rcases ih O ι w ρ hO (ABC hR) hρ with ⟨u,w',ι',hr,hv,hs⟩ | ⟨f,args,hr,hc⟩
  ·rw [B8] at hs
   exact .inl ⟨u,w',ι',hr,hv,jh hR hs⟩
  ·refine .inr ⟨f,args,hr,hc.mono fun e w' he=>?_⟩
   obtain ⟨u,ι',h1,h2,h3⟩:=he
   rw [B8] at h3
   exact ⟨u,ι',h1,h2,jh hR h3⟩
 |@stores k id ops s A V hm hok hA hP hS=>
  subst hA
  intro ι w a hk' hR hf Q hQ
  exact Ro hm ⟨rfl,fun i o ho hs=>⟨.inl (hP i o ho hs).1,(hP i o ho hs).2⟩,hS⟩ hok hf hR hk' fun ι' a' w' h1 h2 h3=>hQ ι' a' w' h1 h2 h3
 |@stores2 k id ops s A V E hm hok hA hP hE hE2 hS ihE=>
  subst hA
  intro ι w a hk' hR hf Q hQ
  refine Ro hm ⟨rfl,fun i o ho hs=>⟨?_,(hE2 i o ho hs).2⟩,hS⟩ hok hf hR hk' fun ι' a' w' h1 h2 h3=>hQ ι' a' w' h1 h2 h3
  cases he:E i with
  |false=>exact .inr (.inr (hP i o ho hs he))
  |true=>exact .inr (.inl ⟨(hE2 i o ho hs).1 he,ihE i o ho hs he⟩)
 |cskip=>exact fun ι w a hk' hR hf Q hQ=>wp_skip (hQ ι a w hf rfl (Step.refl hR hk'))
 |label=>exact fun ι w a hk' hR hf Q hQ=>wp_label (hQ ι a w hf rfl (Step.refl hR hk'))
 |@seq k a b s s1 r h1 h2 ih1 ih2=>
  cases r with
  |val v m=>trivial
  |out e s'=>
   intro ι w a' hk' hR hf Q hQ
   exact wp_seq (NY (ih1 ι w a' hk' hR hf _ fun ι2 a2 w2 g1 g2 g3=>NY (ih2 ι2 w2 a2 g3.len g3.r g1 Q fun ι3 a3 w3 k1 k2 k3=>hQ ι3 a3 w3 k1 (k2.trans g2) (g3.comp k3))))
 |@seqx k a b s s1 e h1 he ih=>
  intro ι w a' hk' hR hf Q hQ
  refine wp_seq (NY (ih ι w a' hk' hR hf _ fun ι2 a2 w2 g1 g2 g3=>?_))
  have:=hQ ι2 a2 w2 g1 g2 g3
  cases e with
  |normal=>exact absurd rfl he
  |_=>exact this
 |@cond k c a b s r t hc h ih=>
  cases r with
  |val v m=>trivial
  |out e s'=>
   intro ι w a' hk' hR hf Q hQ
   have hv:=bU hf c
   rw [hc] at hv
   exact wp_cond hv (NY (ih ι w a' hk' hR hf Q hQ))
 |@block k id c s s1 e h ih=>
  intro ι w a' hk' hR hf Q hQ
  refine wp_block (NY (ih ι w a' hk' hR hf _ fun ι2 a2 w2 g1 g2 g3=>?_))
  have:=hQ ι2 a2 w2 g1 g2 g3
  cases e with
  |normal=>exact this
  |ret=>exact this
  |exit i=>
   simp only [Ex.block,Ex.out,Exit.inBlock] at this ⊢
   split
   ·rename_i e;rw [if_pos e] at this;exact this
   ·rename_i e;rw [if_neg e] at this;exact this
 |@loop k c s s1 r h1 h2 ih1 ih2=>
  cases r with
  |val v m=>trivial
  |out e s'=>
   intro ι w a' hk' hR hf Q hQ
   exact UH (NY (ih1 ι w a' hk' hR hf _ fun ι2 a2 w2 g1 g2 g3=>ih2 ι2 w2 a2 g3.len g3.r g1 Q fun ι3 a3 w3 k1 k2 k3=>hQ ι3 a3 w3 k1 (k2.trans g2) (g3.comp k3)))
 |@loopx k c s s1 e h1 he ih=>
  intro ι w a' hk' hR hf Q hQ
  refine UH (NY (ih ι w a' hk' hR hf _ fun ι2 a2 w2 g1 g2 g3=>?_))
  have:=hQ ι2 a2 w2 g1 g2 g3
  cases e with
  |normal=>exact absurd rfl he
  |_=>exact this
 |exit=>exact fun ι w a hk' hR hf Q hQ=>wp_exit (hQ ι a w hf rfl (Step.refl hR hk'))
 |ret=>exact fun ι w a hk' hR hf Q hQ=>wp_ret (hQ ι a w hf rfl (Step.refl hR hk'))
 |@scope k c s s1 e h ih=>
  intro ι w a' hk' hR hf Q hQ
  refine wp_scope_straight (NY (ih ι w a' hk' hR hf _ fun ι2 a2 w2 g1 g2 g3=>?_))
  have:=hQ ι2 a2 w2 g1 g2 g3
  cases e<;>exact this
 |@view f args m args' m' v N ρ hρ ha h ih=>
  intro ι w cargs hR hargs
  refine (ih (IX ρ ι) w cargs (xC hρ hR) (R2.rel (ι:=ι) (ι':=IX ρ ι) (fun _ _ _ h=>h) (fun j i hj=>by unfold IX;dsimp only;rw [hj];rfl) ha hargs)).mono fun e' w' hq=>?_
  obtain ⟨u,ι1,rfl,hv,hs⟩:=hq
  obtain ⟨ι2,hsame,hst⟩:=lG hρ hR hs
  exact ⟨u,ι2,rfl,AV.ren_rel hsame hv,hst⟩
 |@call f fn c args m e s' vs v m' ids hf hb hn h he hres hcan ih=>
  intro ι w cargs hR hargs
  obtain ⟨hok,hv,rfl⟩:=RA hcan
  simp only [List.map_cons,List.map_nil,List.cons.injEq,and_true] at hv
  subst hv
  refine calls_of_wp hf hb (NY (ih ι w _ (Nat.le_refl _) hR (zx hargs hn m) _ fun ι2 a2 w2 g1 g2 g3=>?_))
  obtain ⟨u,hu,hr⟩:=XE hres g3.r g1
  have hcs:=Jw hok g3.r
  have fin:a2.defers=[]∧ ∃v,(results fn a2.tmps).run P w2= .ok v w2∧ ∃u ι',Ending.returned v= .returned u∧((uL vs).ren (Gx m.length ids)).rel ι' u∧Step m.length ι m w ι' (EI m.length s'.m ids) w2:=
   ⟨g2,u,hu,u,Ei m.length ids ι2,rfl,AV.ren_rel (MI _ _ _) hr,g3.comp hcs⟩
  rcases he with rfl | rfl
  ·exact fin
  ·exact fin
theorem Wq(b o j:Nat):(⟨b,o,none⟩:Addr).add j=⟨b,o+j,none⟩:=Addr.add_mid b o j
end Go.Proofs.YtmbepikkgkcgkaaGreatDoor
namespace Go.Proofs.YtmbepikkgkcgkaaGreatDoor
open Go.ChangeShapes Go.WideShapes Go.ChangeAt Go.RowKit
variable {g r : Prop}
open Go.Proofs.Tryz
section
variable {H:Type} {enc:TypeId×Value→H} {P:Program} {w:World} {base:Nat} {spare:Nat→Bool} {held:Bool}
theorem AAT{r:Reach}{b0:Nat}{t:TypeId}{v:Value}{d:DataW H}{ps:List MemPlace}(ht:P.underlying t=some (.int .i64))(hval:Value.okWide P w r b0 t v)(hd:DataW.Trod enc P w base spare held t v d ps):
  ∃n:Int,v= .int .i64 n∧(Lit.int .i64 n).wf=true:=by
 obtain ⟨n,rfl,_,_,hw⟩:=open_int ht hval hd
 exact ⟨n,rfl,hw⟩
end
section
variable {H:Type} {enc:TypeId×Value→H} {P:Program} {w:World} {base:Nat} {held:Bool}
end
def nk(sz:Nat):Value→Option Loc
 |.slice (some a) _ cap=>if cap=0 then none else some ⟨a.block,a.off,cap*sz⟩
 |_=>none
def XS(w:World):Nat→Nat→Value→Prop:=fun c o v=> ∃cs t fr,w.heap[c]?=some (.cells cs t fr)∧cs[o]?=some v
def ye(w:World)(sz:Nat)(v:Value)(x:Arr):Prop:=x.isMap=false∧ ∃a len cap,v= .slice a len cap∧len≤cap∧x.size=len*sz∧(cap=0∨ ∃b off cs t fr,a=some ⟨b,off,none⟩∧w.heap[b]?=some (.cells cs t fr)∧ ∀i,i<x.size→ ∃u,cs[off+i]?=some u∧ ∀ι:Emb,ι.tx=XS w→(x.get i).rel ι u)
def Ps(w:World)(us:List (Value×Nat×Arr)):Emb:=⟨fun i=>(us[i]?).bind fun p=>nk p.2.1 p.1,XS w⟩
def Pw(us:List (Value×Nat×Arr)):Ak:=us.map fun p=> .row false p.2.2
theorem ABy{us:List (Value×Nat×Arr)}{w:World}(hb:∀c Φ,Uj c=some Φ→ ∃ob,w.heap[c]?=some ob∧Φ ob)(h:∀p∈us,ye w p.2.1 p.1 p.2.2):R (Ps w us) (Pw us) w:=by
 have row:∀ {b:Nat} {own:Bool} {x:Arr},(Pw us)[b]?=some (.row own x)→ ∃p,us[b]?=some p∧own=false∧x=p.2.2:=fun {b own x} hb=>by
  unfold Pw at hb
  rw [List.getElem?_map] at hb
  obtain ⟨p,hp,e⟩:=Option.map_eq_some_iff.1 hb
  cases e
  exact ⟨p,hp,rfl,rfl⟩
 refine ⟨fun b hb=>?_,fun b l own x h1 h2=>?_,fun b b' l l' own own' x x' _ _ _ k1 k2 ho=>?_,fun c Φ hc=>⟨?_,fun b l x _ k=>?_⟩⟩
 ·unfold Ps
  dsimp only
  rw [List.getElem?_eq_none (by simpa [Pw] using hb)];rfl
 ·obtain ⟨p,hp,rfl,rfl⟩:=row h2
  obtain ⟨hmp,a,len,cap,hv,hl,hsz,hs⟩:=h p (List.mem_of_getElem? hp)
  unfold Ps at h1
  dsimp only at h1
  rw [hp] at h1
  simp only [Option.bind_some,hv] at h1
  cases a with
  |none=>cases h1
  |some a=>
   simp only [nk] at h1
   split at h1
   ·cases h1
   ·rename_i hc
    cases h1
    rcases hs with hs | ⟨b1,off,cs,t,fr,ha,hh,hcell⟩
    ·exact absurd hs hc
    ·cases ha
     refine .of hmp ⟨cs,t,fr,hh,by rw [hsz];exact Nat.mul_le_mul_right _ hl,fun i hi=>?_,fun h=>by cases h⟩
     obtain ⟨u,e1,e2⟩:=hcell i hi
     exact ⟨u,e1,e2 _ rfl⟩
 ·obtain ⟨_,_,rfl,_⟩:=row k1
  obtain ⟨_,_,rfl,_⟩:=row k2
  rcases ho with h | h<;>cases h
 ·cases hc with
  |tx k=>obtain ⟨cs,t,fr,h1,h2⟩:=k;exact ⟨_,h1,cs,t,fr,rfl,h2⟩
  |base k=>exact hb _ _ k
 ·obtain ⟨_,_,e,_⟩:=row k
  cases e
theorem open_row{us:List (Value×Nat×Arr)}{w:World}{i sz len:Nat}{u:Value}{x:Arr}(hi:us[i]?=some (u,sz,x))(h:ye w sz u x)(hl:x.size=len*sz)(h0:0<sz):(AV.c (.sl i 0 len len sz)).rel (Ps w us) u:=by
 obtain ⟨_,a,ln,cap,rfl,h1,h2,hs⟩:=h
 obtain rfl:ln=len:=Nat.eq_of_mul_eq_mul_right h0 (h2.symm.trans hl)
 refine ⟨a,cap,rfl,h1,h1,?_⟩
 rcases hs with hs | ⟨b1,off,cs,t,fr,rfl,hh,hcell⟩
 ·exact .inl hs
 ·by_cases hc:cap=0
  ·exact .inl hc
  ·refine .inr ⟨⟨b1,off,cap*sz⟩,?_,rfl,by simp⟩
   unfold Ps
   dsimp only
   rw [hi]
   simp [nk,hc]
theorem zH{P:Program}{f:FuncId}{args:List AV}{m m':Ak}{ι:Emb}{w:World}{vs:Array Value}(h:Ev P (.call f args m) (.val (.c (.val (.bool true))) m'))(hR:R ι m w)(ha:Cb ι args vs.toList)(hro:∀c,¬C5 ι m c):
  Calls P f vs w fun e w'=>e= .returned (.bool true)∧Below w.heap.size w w':=by
 refine (sound h ι w vs hR ha).mono fun e w' hq=>?_
 obtain ⟨u,ι',rfl,hv,hs⟩:=hq
 have hu:u= .bool true:=hv
 subst hu
 exact ⟨rfl,hs.trans.os,hs.trans.tape,hs.trans.output,hs.trans.size,fun c hc=>hs.trans.keep c hc (hro c)⟩
theorem yw{us:List (Value×Nat×Arr)}{w:World}{c:Nat}:¬C5 (Ps w us) (Pw us) c:=by
 rintro ⟨b,l,x,_,h,_⟩
 unfold Pw at h
 rw [List.getElem?_map] at h
 obtain ⟨p,_,e⟩:=Option.map_eq_some_iff.1 h
 cases e
section
variable {H:Type} {enc:TypeId×Value→H} {P:Program} {w:World} {base:Nat} {held:Bool}
end
def vb:List (String×DataW Unit):=[("math/bits.deBruijn32tab",Rows.laid_math_bits_deBruijn32tab),("math/bits.deBruijn64tab",Rows.laid_math_bits_deBruijn64tab),("internal/strconv.uint64pow10",Rows.laid_internal_strconv_uint64pow10)]
theorem ABD:prog.globalNamed "internal/strconv.uint64pow10" =some 0:=by kernel_rfl
theorem ACH:(prog.globals[0]?).map (·.type)=some 222:=by kernel_rfl
theorem ABm:prog.underlying 222=some (.array 20 70):=by kernel_rfl
theorem yf:prog.underlying 70=some (.int .u64):=by kernel_rfl
theorem K_{p:Prop}(h:p:=by kernel_rfl):p:=h
theorem AA7(os:Os)(args:Array Value):laidMetH prog vb ((World.doorLaid prog 400 os).forCall (fun _ _=>0) ⟨#[],args,[]⟩).memory:=
 laidMetH_of_parts3 (fuel:=8) (laidMet_of_run' 8 K_ K_) K_ K_
theorem base_of{W:World}(h:laidMetH prog vb W):∀c Φ,Uj c=some Φ→ ∃ob,W.heap[c]?=some ob∧Φ ob:=by
 rw [MakeChecks.laidMetH_plain _ _ _ K_] at h
 obtain ⟨ps,⟨g0,t0,cs0,f0,p0,q0,hg0,ht0,hv0,hd0,⟨g1,t1,cs1,f1,p1,q1,hg1,ht1,hv1,hd1,⟨g2,t2,cs2,f2,p2,q2,hg2,ht2,hv2,hd2,_⟩,_⟩,_⟩,_,_⟩:=h
 obtain rfl:=Option.some.inj (ABD.symm.trans hg2)
 obtain rfl:=Option.some.inj (ACH.symm.trans ht2)
 have hd:DataW.trod _ prog _ _ _ _ f2 222 cs2.toList=some (Lib.tabData .u64 Lib.pow10Tab,p2):=hd2
 have hcs:=Lib.cells_of_tab ABm yf K_ K_ hd
 intro c Φ hc
 unfold Uj at hc
 split at hc
 ·rename_i h0
  subst h0
  cases hc
  simp only [World.var?,ABD,Option.bind_some] at hv2
  split at hv2
  ·rename_i cs t fr hh
   cases hv2
   exact ⟨_,hh,t,fr,by rw [←hcs]⟩
  ·cases hv2
 ·cases hc
end Go.Proofs.YtmbepikkgkcgkaaGreatDoor
namespace Go.Proofs.YtmbepikkgkcgkaaGreatDoor
open Go.Shelf
variable {g r : Prop}
open Go.Proofs.Tryz
def Tryz.laysAI_ren:Go.Shelf.Ren:=⟨fun | 176=>67 | 249=>102 | 288=>143 | 283=>179 | 284=>180 | 285=>181 | 286=>182 | 129=>192 | 317=>191 | 318=>193 | 319=>194 | 320=>195 | 337=>198 | 338=>199 | n=>n,fun | 37=>23 | 2=>2 | 3=>3 | 53=>70 | 4=>4 | 9=>9 | 171=>207 | 0=>0 | 173=>210 | 212=>222 | 51=>106 | 5=>5 | 20=>20 | 213=>223 | 46=>71 | 232=>37 | 233=>105 | n=>n,fun | 17=>0 | 18=>1 | 19=>2 | n=>n⟩
theorem Tryz.laysAI:Go.Proofs.LaysM.n176 prog Tryz.laysAI_ren:={
 mixed:=by kernel_rfl
 f129:=func192.trans (congrArg some K_)
 f176:=func67.trans (congrArg some K_)
 f249:=func102.trans (congrArg some K_)
 f283:=func179.trans (congrArg some K_)
 f284:=func180.trans (congrArg some K_)
 f285:=func181.trans (congrArg some K_)
 f286:=func182.trans (congrArg some K_)
 f288:=func143.trans (congrArg some K_)
 f317:=func191.trans (congrArg some K_)
 f318:=func193.trans (congrArg some K_)
 f319:=func194.trans (congrArg some K_)
 f320:=func195.trans (congrArg some K_)
 f337:=func198.trans (congrArg some K_)
 f338:=func199.trans (congrArg some K_)
 t0:=underlying0
 a0:=isAgg0
 z0:=sizeOf0
 v0:=zeroValue0
 t2:=underlying2
 a2:=isAgg2
 z2:=sizeOf2
 v2:=zeroValue2
 t3:=underlying3
 a3:=isAgg3
 z3:=sizeOf3
 v3:=zeroValue3
 t4:=underlying4
 a4:=isAgg4
 z4:=sizeOf4
 v4:=zeroValue4
 t5:=underlying5
 a5:=isAgg5
 z5:=sizeOf5
 v5:=zeroValue5
 t9:=underlying9
 a9:=isAgg9
 z9:=sizeOf9
 v9:=zeroValue9
 t20:=underlying20
 a20:=isAgg20
 z20:=sizeOf20
 v20:=zeroValue20
 t37:=underlying23
 a37:=isAgg23
 z37:=sizeOf23
 v37:=zeroValue23
 t46:=underlying71
 a46:=isAgg71
 z46:=sizeOf71
 v46:=zeroValue71
 t51:=underlying106
 a51:=isAgg106
 z51:=sizeOf106
 v51:=zeroValue106
 t53:=underlying70
 a53:=isAgg70
 z53:=sizeOf70
 v53:=zeroValue70
 t171:=underlying207
 a171:=isAgg207
 z171:=sizeOf207
 v171:=zeroValue207
 t173:=underlying210
 a173:=isAgg210
 z173:=sizeOf210
 v173:=zeroValue210
 t212:=underlying222
 a212:=isAgg222
 z212:=sizeOf222
 v212:=zeroValue222
 t213:=underlying223
 a213:=isAgg223
 z213:=sizeOf223
 t232:=underlying37
 a232:=isAgg37
 z232:=sizeOf37
 v232:=zeroValue37
 t233:=underlying105
 a233:=isAgg105
 z233:=sizeOf105
 v233:=zeroValue105
 g17:=by kernel_rfl
 g18:=by kernel_rfl
 g19:=by kernel_rfl
 i0:=by kernel_rfl
 i2:=by kernel_rfl
 i3:=by kernel_rfl
 i4:=by kernel_rfl
 i5:=by kernel_rfl
 i9:=by kernel_rfl
 i20:=by kernel_rfl
 i37:=by kernel_rfl
 i46:=by kernel_rfl
 i51:=by kernel_rfl
 i53:=by kernel_rfl
 i171:=by kernel_rfl
 i173:=by kernel_rfl
 i212:=by kernel_rfl
 i232:=by kernel_rfl
 i233:=by kernel_rfl
 m17:=by kernel_rfl
 m18:=by kernel_rfl
 m19:=by kernel_rfl }
theorem lD (B n : Nat) (i : Int) (h0 : -9223372036854775808 ≤ i) (h1 : i ≤ 9223372036854775807) (sv : Value) (xs : List Value) (w : World) (hown : w.ownsRow B 5 1 sv n xs) (hBw : B ≤ w.heap.size) (hlim : n + 21 ≤ 140737488355328)
    (htab : Lib.TabBelow prog B w "internal/strconv.uint64pow10" .u64 Lib.pow10Tab) :
    Calls prog 67 #[sv, .int .i64 i, .int .i64 10] w fun e w' => ∃ v', e = .returned v' ∧ w'.ownsRow B 5 1 v' (n + (Lib.itoa i).length) (xs ++ Lib.byteCells (Lib.itoa i)) ∧ RowKit.Below B w w' ∧ Lib.OthersKept 5 none w w' := Any.strconv_AppendInt_10 Tryz.laysAI B n i h0 h1 sv xs w hown hBw hlim htab
end Go.Proofs.YtmbepikkgkcgkaaGreatDoor
namespace Go.Proofs.YtmbepikkgkcgkaaGreatDoor
open Go.RowKit
variable {g r : Prop}
open Go.Proofs.Tryz
def DZ:List Int→List UInt8
 |[]=>[]
 |x::l=>Lib.itoa x++32::DZ l
def GR(l:List Int)(q:Nat):List UInt8:=DZ (l.take q)
theorem cY(l m:List Int):DZ (l++m)=DZ l++DZ m:=by
 induction l with
 |nil=>rfl
 |cons x l ih=>simp [DZ,ih]
theorem cI(l:List Int)(q:Nat)(h:q<l.length):GR l (q+1)=GR l q++(Lib.itoa l[q]++[32]):=by
 unfold GR
 rw [List.take_succ_eq_append_getElem h,cY]
 rfl
theorem xX:(prog.info? 5).map (fun i=>(i.zero,i.size,i.bytes))=some (some (.int .u8 0),1,1):=by kernel_rfl
theorem jF:(prog.info? 3).map (fun i=>(i.zero,i.size,i.bytes))=some (some (.int .i64 0),1,8):=by kernel_rfl
theorem D_{p:Prop}(h:p:=by decide):p:=h
theorem Oa{P:Program}(w:World){ops:Array Oper}{rest:List Oper}{o:Oper}{a:Act}{Q:Exit→Act→World→Prop}(hgd:o.guard=none)(s x:Operand)(t:TypeId)
  (ho:o.op= .call { callee:= .builtin .append,args:= #[s,x],argTypes:= #[t,t] }) (B:Nat) (ht:P.underlying t=some (.slice 3)) (hi:(P.info? 3).map (fun i=>(i.zero,i.size,i.bytes))=some (some (.int .i64 0),1,8))
  (v:Value) (n:Nat) (l:List Value) (m:List Int) (hs:a.eval s=v) (hown:w.ownsRow B 3 1 v n l) (u:Value) (hx:a.eval x=u) (hu:(u= .slice none 0 0∧m=[])∨ ∃ad cap,u= .slice (some ad) m.length cap∧ ∀j u,(m.map (Value.int .i64))[j]?=some u→w.cell? (ad.add j)=some u) (h46:n+m.length≤1000000) (hB:B≤w.heap.size)
  (h:∀v' w',w'.ownsRow B 3 1 v' (n+m.length) (l++m.map (Value.int .i64))→w.grownBy w' v.ownBlock→wpList P ops Q rest (a.put o.dst v') w'):wpList P ops Q (o::rest) a w:=by
 obtain ⟨i0,hi0,hz0,hz1,hz2⟩:=info_parts hi
 rcases hu with ⟨rfl,rfl⟩ | ⟨ad,cap,rfl,hcell⟩
 ·refine wpList_append_own_none hgd s x t ho B 3 i0 1 ht hi0 v n l hs hown hx ?_
  exact h v w (by simpa using hown) ⟨rfl,rfl,rfl,Nat.le_refl _,fun _ _ _=>rfl⟩
 ·refine wpList_append_own w hgd s x t ho B 3 i0 (.int .i64 0) 1 8 ht hi0 hz0 hz1 hz2 rfl D_ v n l hs hown ad m.length cap (m.map (Value.int .i64)) hx (by simp) hcell ?_ (by unfold maxLen;omega) O_ hB ?_
  ·intro u hu
   obtain ⟨y,_,rfl⟩:=List.mem_map.1 hu
   rfl
  ·intro v' w' h1 h2 _
   exact h v' w' h1 h2
theorem tF(w:World)(x y:Value):(w.alloc (.cells #[x,y] 3)).ownsRow w.heap.size 3 1 (.slice (some ⟨w.heap.size,0,none⟩) 2 2) 2 [x,y]:=
 ⟨rfl,.inr ⟨w.heap.size,2,#[x,y],rfl,Nat.le_refl _,heap_alloc_new w _,Nat.le_refl _,by unfold maxLen;omega,rfl,rfl⟩⟩
theorem tU(kk nn:Int)(l:List Int)(v:Value)(w:World)(hv:(v= .slice none 0 0∧l=[])∨ ∃ad cap,v= .slice (some ad) l.length cap∧ ∀j u,(l.map (Value.int .i64))[j]?=some u→w.cell? (ad.add j)=some u)(hlen:l.length≤1000)
  (hr:∀x∈kk::nn::l,-9223372036854775808≤x∧x≤9223372036854775807) (htab:Lib.TabIs prog w "internal/strconv.uint64pow10" .u64 Lib.pow10Tab):
  Calls prog 42 #[.int .i64 kk,.int .i64 nn,v] w fun e w'=>e= .returned (.string ⟨(DZ (kk::nn::l)).toArray⟩)∧Below w.heap.size w w':=by
 have Hv:=hid hv
 have Hr:=hid hr
 have HT:=hid htab
 have Hlen:=hid hlen
 clear hv hr htab hlen
 go_enter func42,ntmps42
 go_wp2_with (at_builtin;refine Oa _ rfl (.tmp 12) (.tmp 13) 41 rfl w.heap.size underlying41 jF (.slice (some ⟨w.heap.size,0,none⟩) 2 2) 2 [.int .i64 kk,.int .i64 nn] l rfl (tF w _ _) v rfl ?_ (by have:=Hlen.out;omega) (by simp) ?_)
 ·rcases Hv.out with h | ⟨ad,cap,h1,h2⟩
  ·exact .inl h
  ·exact .inr ⟨ad,cap,h1,fun j u hj=>by have h3:=h2 j u hj;exact (World.cell?_of_block (w:=w) (by rw [Gg,if_neg (by have:=World.block_lt_of_cell? w _ h3;omega)])).trans h3⟩
 intro v1 w1 hown1 hgrow1
 have hB1:Below w.heap.size w w1:=((Below.refl _ _).alloc (Nat.le_refl _) _).grown hgrow1 (by simp) (fun k hk=>by simp [Value.ownBlock] at hk;omega)
 have hT1:Lib.TabIs prog w1 "internal/strconv.uint64pow10" .u64 Lib.pow10Tab:=(Lib.tabBelow_of_tabIs HT.out) w1 hB1
 obtain ⟨xs,hxs⟩:∃xs,xs=kk::nn::l:=⟨_,rfl⟩
 have Hxs:=hid hxs
 have hl2:2+l.length=xs.length:=by rw [hxs];simp;omega
 have hm2:Value.int IntKind.i64 kk::Value.int IntKind.i64 nn::List.map (Value.int IntKind.i64) l=xs.map (Value.int .i64):=by rw [hxs];rfl
 rw [hl2,hm2] at hown1
 rw [←hxs] at Hr
 have hlen2:xs.length≤1002:=by have:=Hlen.out;omega
 rcases hown1.2 with ⟨_,h0⟩ | ⟨g,cap1,cur,rfl,hg,hh,hc1,hm1,hs1,ht1⟩
 ·omega
 have hcell:∀i,(hi:i<xs.length)→w1.cell? ⟨g,i,none⟩=some (.int .i64 xs[i]):=fun i hi=>by
  have h1:=hown1.cells (g:=g) rfl i (.int .i64 xs[i]) (by simp [hi])
  rwa [show (⟨g,0,none⟩:Addr).add i=⟨g,i,none⟩ by rw [Addr.add_mid,Nat.zero_add]] at h1
 have hgl:g<w1.heap.size:=(Array.getElem?_eq_some_iff.1 hh).1
 have HC:=hid hcell
 have HB1:=hid hB1
 have HT1:=hid hT1
 have HL2:=hid hlen2
 have HG:=hid hgl
 clear hown1 hgrow1 hB1 hT1 hl2 hm2 hh hc1 hm1 hs1 ht1 hcell hg hlen2 hgl hxs
 obtain ⟨i0,hi,hz0,hz1,hz2⟩:=info_parts xX
 go_wp2
 go_loopw [7,16] (fun bv iv wr=> ∃q:Nat,q≤xs.length∧iv= .int .i64 q∧Below w1.heap.size w1 wr∧wr.ownsRow w1.heap.size 5 1 bv (GR xs q).length (Lib.byteCells (GR xs q))∧(GR xs q).length≤22*q) (fun _ iv _=>xs.length-(intOf iv).toNat)
 case atStart=>exact ⟨0,Nat.zero_le _,rfl,Below.refl _ _,World.ownsRow_nil _ _ _ _,by simp [GR,DZ]⟩
 case round=>
  obtain ⟨q,hq,rfl,hB,hO,hK⟩:=hrel
  by_cases hlt:q<xs.length
  ·obtain ⟨x,hx,hr,hsucc⟩:∃x,wr.cell? ⟨g,q,none⟩=some (.int .i64 x)∧(-9223372036854775808≤x∧x≤9223372036854775807)∧GR xs (q+1)=GR xs q++(Lib.itoa x++[32]):=
    ⟨xs[q],by rw [World.cell?_of_block (hB.block g HG.out)];exact HC.out q hlt,Hr.out xs[q] (List.getElem_mem _),cI xs q hlt⟩
   have hl:=Lib.itoa_length_le x hr.1 hr.2
   have HO:=hid hO
   have HB:=hid hB
   have HKq:=hid hK
   have HR:=hid hr
   have HIl:=hid hl
   have HS:=hid hsucc
   have HLt:=hid hlt
   have hlt2:(q:Int)<xs.length:=by omega
   clear hO hB hK hr hl hsucc
   go_wp2_with (go_at_call 67;refine (lD w1.heap.size _ x HR.out.1 HR.out.2 u7 _ wr HO.out HB.out.size (by have:=HKq.out;have:=HL2.out;omega) ((Lib.tabBelow_of_tabIs HT1.out).on HB.out)).mono ?_;rintro e w2 ⟨v2,rfl,hown2,hnx2,-⟩;refine Hid.out ?_)
   refine Lib.hid ?_;go_wp2_with (at_builtin;refine wpList_append_own _ rfl _ _ 23 rfl w1.heap.size 5 i0 (.int .u8 0) 1 1 underlying23 hi hz0 hz1 hz2 rfl D_ _ _ _ rfl (hown2.alloc _) ⟨w2.heap.size,0,none⟩ 1 1 [Value.int .u8 32] rfl rfl (by intro j u' hj;match j,hj with | 0,hj=>simp at hj;subst hj;simp [Addr.add]) (by intro u' hu';simp at hu';subst hu';rfl) (by unfold maxLen;have:=HKq.out;have:=HIl.out;have:=HL2.out;omega) (by have:=HKq.out;have:=HIl.out;have:=HL2.out;omega) (by have:=HB.out.size;have:=hnx2.size;simp;omega) ?_)
   intro v3 w3 hown3 hgrow3 _
   have hnx3:Below w1.heap.size wr w3:=(hnx2.alloc (by have:=HB.out.size;have:=hnx2.size;omega) _).grown hgrow3 (by have:=HB.out.size;have:=hnx2.size;simp;omega) (fun k hk=>(hown2.lt k hk).1)
   have eL:Lib.byteCells (GR xs q)++(Lib.byteCells (Lib.itoa x)++[Value.int .u8 32])=Lib.byteCells (GR xs (q+1)):=by
    rw [HS.out]
    unfold Lib.byteCells
    rw [List.map_append,List.map_append]
    rfl
   have eN:(GR xs q).length+(Lib.itoa x).length+1=(GR xs (q+1)).length:=by rw [HS.out,List.length_append,List.length_append];simp;omega
   rw [eL,eN] at hown3
   have hK3:(GR xs (q+1)).length≤22*(q+1):=by have:=HKq.out;have:=HIl.out;omega
   have HO3:=hid hown3
   have HN3:=hid hnx3
   have HK3:=hid hK3
   clear hown3 hnx3 hgrow3 eL eN hK3 hown2 hnx2
   go_wp2
   have hw:wrap64 ((q:Int)+1)=((q+1:Nat):Int):=by
    have h1:=HLt.out
    have h2:=HL2.out
    unfold wrap64
    omega
   rw [hw]
   refine ⟨⟨q+1,HLt.out,rfl,HB.out.trans HN3.out,HO3.out,HK3.out⟩,?_⟩
   have h1:=HLt.out
   simp only [intOf,Int.toNat_natCast]
   omega
  ·have hqe:q=xs.length:=by omega
   have hge:¬(q:Int)<xs.length:=by omega
   rw [show GR xs q=DZ xs by unfold GR;rw [hqe,List.take_length]] at hO hK
   have HB:=hid hB
   have HK:=hid hK
   have hpos:0<(DZ xs).length:=by rw [Hxs.out];simp [DZ];omega
   rcases hO.2 with ⟨-,h0⟩ | ⟨g2,cap2,cur2,rfl,-,-,-,-,-,-⟩
   ·omega
   ·have hcv:=run_convert_bytes_back (P:=prog) wr 23 9 5 ⟨g2,0,none⟩ cap2 (DZ xs) underlying23 underlying5 underlying9 (fun j hj=>hO.cells (g:=g2) rfl j _ (by simp [Lib.byteCells,hj]))
    clear hO hB hK
    go_wp2
    go_ret
    refine ⟨by rw [←Hxs.out];rfl,HB1.out.trans ?_⟩
    exact HB.out.mono HB1.out.size
def PartOf(ρ:Nat→Option (Nat×Nat))(m m':Ak):Prop:= ∀j i o,ρ j=some (i,o)→j<m'.length∧ ∃own x y,m[i]?=some (.row own x)∧m'[j]?=some (.row false y)∧o+y.size≤x.size∧(∀k,k<y.size→y.get k=x.get (o+k))∧y.ren MG=y∧x.isMap=false∧y.isMap=false
inductive UP (ρ:Nat→Option (Nat×Nat)):Cell→Cell→Prop
 |same {x:Cell} (h:x.ren MG=x):UP ρ x x
 |ptr {b b' o k e:Nat} (h:ρ b'=some (b,o)) (he:e=o+k):UP ρ (.ptr b e) (.ptr b' k)
 |sl {b b' o k e len cap sz:Nat} (h:ρ b'=some (b,o)) (he:e=o+k):UP ρ (.sl b e len cap sz) (.sl b' k len cap sz)
 |nil {b' sz:Nat}:UP ρ .nsl (.sl b' 0 0 0 sz)
 |emp {b' sz:Nat}:UP ρ .esl (.sl b' 0 0 0 sz)
inductive UN (ρ:Nat→Option (Nat×Nat)):List AV→List AV→Prop
 |nil:UN ρ [] []
 |c {x y:Cell} {l m:List AV} (h:UP ρ x y) (hl:UN ρ l m):UN ρ (.c x::l) (.c y::m)
 |agg {x:Arr} {l m:List AV} (h:x.ren MG=x) (hl:UN ρ l m):UN ρ (.agg x::l) (.agg x::m)
def Ig(n m j:Nat):Option Nat:=if j<n then none else some (j-n+m)
def Gq(ρ:Nat→Option (Nat×Nat))(ι:Emb):Emb:=⟨fun j=>(ρ j).bind fun q=>(ι q.1).map fun l=>⟨l.c,l.off+q.2,l.n-q.2⟩,ι.tx⟩
section
variable {ρ:Nat→Option (Nat×Nat)} {m m' N:Ak} {ι:Emb} {w:World}
theorem Wk{j i o:Nat}(h:ρ j=some (i,o)):Gq ρ ι j=(ι i).map fun l=>⟨l.c,l.off+o,l.n-o⟩:=by
 unfold Gq;dsimp only;rw [h];rfl
theorem Hx{j:Nat}{l:Loc}(h:Gq ρ ι j=some l):∃i o l0,ρ j=some (i,o)∧ι i=some l0∧l=⟨l0.c,l0.off+o,l0.n-o⟩:=by
 unfold Gq at h
 obtain ⟨⟨i,o⟩,h1,h2⟩:=Option.bind_eq_some_iff.1 h
 obtain ⟨l0,h3,rfl⟩:=Option.map_eq_some_iff.1 h2
 exact ⟨i,o,l0,h1,h3,rfl⟩
theorem UP.rel{x y:Cell}(h:UP ρ x y){v:Value}(hr:x.rel ι v):y.rel (Gq ρ ι) v:=by
 cases h with
 |same h=>rw [←h];exact Cell.ren_rel (IF ι (Gq ρ ι) fun _ _ _ h=>h) hr
 |ptr h he=>
  obtain ⟨l,hl,rfl⟩:=hr
  subst he
  exact ⟨_,by rw [Wk h,hl];rfl,by simp [Nat.add_assoc]⟩
 |sl h he=>
  subst he
  obtain ⟨p,cap',rfl,h1,h2,h3⟩:=hr
  refine ⟨p,cap',rfl,h1,h2,h3.imp id ?_⟩
  rintro ⟨l,hl,rfl,hn⟩
  exact ⟨_,by rw [Wk h,hl];rfl,by simp [Nat.add_assoc],by show _≤l.n-_;omega⟩
 |nil=>simp only [Cell.rel] at hr;subst hr;exact ⟨none,0,rfl,Nat.le_refl _,Nat.le_refl _,.inl rfl⟩
 |emp=>obtain ⟨p,rfl⟩:=hr;exact ⟨p,0,rfl,Nat.le_refl _,Nat.le_refl _,.inl rfl⟩
theorem UN.rel{l m:List AV}(h:UN ρ l m):∀ {vs:List Value},Cb ι l vs→Cb (Gq ρ ι) m vs:=by
 induction h with
 |nil=>intro vs hr;cases vs with
  |nil=>trivial
  |cons v vs=>exact hr.elim
 |c h _ ih=>intro vs hr;cases vs with
  |nil=>exact hr.elim
  |cons v vs=>exact ⟨h.rel hr.1,ih hr.2⟩
 |@agg x l m h _ ih=>intro vs hr;cases vs with
  |nil=>exact hr.elim
  |cons v vs=>
   refine ⟨?_,ih hr.2⟩
   have:=AV.ren_rel (IF ι (Gq ρ ι) fun _ _ _ h=>h) hr.1
   rwa [show AV.ren MG (.agg x)= .agg x from congrArg AV.agg h] at this
theorem xh(hρ:PartOf ρ m m')(hR:R ι m w):R (Gq ρ ι) m' w:=by
 refine ⟨fun b hb=>?_,fun b l own x h1 h2=>?_,fun b b' l l' own own' x x' _ h1 h1' h2 h2' ho=>?_,fun c Φ hc=>⟨(hR.stay c Φ (hc.to ι)).1,fun b l x h1 h2 _=>?_⟩⟩
 ·cases hv:Gq ρ ι b with
  |none=>rfl
  |some l=>obtain ⟨i,o,l0,hi,_⟩:=Hx hv;have:=(hρ b i o hi).1;omega
 ·obtain ⟨i,o,l0,hi,hl,rfl⟩:=Hx h1
  obtain ⟨_,ow,xx,y,g1,g2,g3,g4,g5,g6,g7⟩:=hρ b i o hi
  rw [g2] at h2;cases h2
  obtain ⟨cs,t,fr,k1,k2,k3,_⟩:=hR.cells hl g1 g6
  refine .of g7 ⟨cs,t,fr,k1,by show _≤l0.n-o;omega,fun k hk=>?_,fun h=>by cases h⟩
  obtain ⟨v,e1,e2⟩:=k3 (o+k) O_
  refine ⟨v,by rw [show l0.off+o+k=l0.off+(o+k) from Nat.add_assoc _ _ _];exact e1,?_⟩
  rw [←g4 k hk] at e2
  have:=Cell.ren_rel (IF ι (Gq ρ ι) fun _ _ _ h=>h) e2
  rwa [←Arr.ren_get,g5] at this
 ·obtain ⟨i,o,l0,hi,_⟩:=Hx h1
  obtain ⟨i',o',l0',hi',_⟩:=Hx h1'
  obtain ⟨_,_,_,_,_,g2,_⟩:=hρ b i o hi
  obtain ⟨_,_,_,_,_,g2',_⟩:=hρ b' i' o' hi'
  rw [g2] at h2;cases h2
  rw [g2'] at h2';cases h2'
  rcases ho with h | h<;>cases h
 ·obtain ⟨i,o,l0,hi,_⟩:=Hx h1
  obtain ⟨_,_,_,_,_,g2,_⟩:=hρ b i o hi
  rw [g2] at h2;cases h2
theorem Wm{ιp:Emb}(unown:∀c,C5 ιp m' c→False)(htx:ιp.tx=ι.tx)(hR:R ι m w){ι1:Emb}{w':World}(h:Step m'.length ιp m' w ι1 (m'++N) w'):
  ∃ι2:Emb,Same (Ig m'.length m.length) ι1 ι2∧Step m.length ι m w ι2 (m++N.map (Row.ren (Ig m'.length m.length))) w':=by
 have htx1:∀c o v,ι.tx c o v→ι1.tx c o v:=fun c o v hc=>h.tx c o v (by rw [htx];exact hc)
 have htxn:∀c o v,ι1.tx c o v→ι.tx c o v∨w.heap.size≤c∨C5 ιp m' c:=fun c o v hc=>by have:=h.txn c o v hc;rwa [htx] at this
 let ι2:Emb:=⟨fun b=>if b<m.length then ι b else ι1 (b-m.length+m'.length),ι1.tx⟩
 have lo:∀ {b},b<m.length→ι2 b=ι b:=fun hb=>if_pos hb
 have hi:∀ {b},m.length≤b→ι2 b=ι1 (b-m.length+m'.length):=fun hb=>if_neg O_
 have hle:ι.le ι2:=by
  refine ⟨fun b l hb=>?_,htx1⟩
  have:b<m.length:=by
   rcases Nat.lt_or_ge b m.length with h' | h'
   ·exact h'
   ·rw [hR.dom b h'] at hb;cases hb
  rw [lo this];exact hb
 have same:Same (Ig m'.length m.length) ι1 ι2:=by
  refine ⟨fun j i hj=>?_,fun _ _ _ h=>h⟩
  unfold Ig at hj
  split at hj
  ·cases hj
  ·rename_i hge
   cases hj
   rw [hi O_]
   congr 1
   omega
 have old:∀ {b own x},b<m.length→(m++N.map (Row.ren (Ig m'.length m.length)))[b]?=some (.row own x)→m[b]?=some (.row own x):=fun {b own x} hb hm=>by rw [List.getElem?_append_left hb] at hm;exact hm
 have new:∀ {b own x},m.length≤b→(m++N.map (Row.ren (Ig m'.length m.length)))[b]?=some (.row own x)→ ∃y,(m'++N)[b-m.length+m'.length]?=some (.row own y)∧x=y.ren (Ig m'.length m.length):=fun {b own x} hb hm=>by
  rw [List.getElem?_append_right hb,List.getElem?_map] at hm
  obtain ⟨r,hr,e⟩:=Option.map_eq_some_iff.1 hm
  obtain ⟨y,rfl,hy⟩:=Uo e
  refine ⟨y,?_,hy⟩
  rw [List.getElem?_append_right O_,show b-m.length+m'.length-m'.length=b-m.length by omega]
  exact hr
 have far:∀ {b l own x},m.length≤b→ι2 b=some l→(m++N.map (Row.ren (Ig m'.length m.length)))[b]?=some (.row own x)→w.heap.size≤l.c:=fun {b l own x} hb hl hm=>by
  obtain ⟨y,hy,_⟩:=new hb hm
  rw [hi hb] at hl
  rcases h.news _ l own y O_ hl hy with h3 | h3 | ⟨b0,l0,o0,x0,h4,h5,h6,_⟩
  ·exact h3
  ·exact (unown _ h3).elim
  ·exact (H9 h4 h6).elim
 refine ⟨ι2,same,⟨⟨fun b hb=>?_,fun b l own x hb hm=>?_,fun b b' l l' own own' x x' hne hb hb' hm hm' hoo=>?_,fun c Φ hc=>⟨(h.r.stay c Φ (hc.to ι1)).1,fun b l x hb hm e=>?_⟩⟩,⟨h.trans.os,h.trans.tape,h.trans.output,h.trans.size,fun c hc _=>h.trans.keep c hc (unown c),fun c hc=>?_⟩,htx1,fun c o v hc=>(htxn c o v hc).imp id (.imp id fun h=>(unown _ h).elim),fun b hb=>lo hb,by simp,fun b x hb hm=>by rw [List.getElem?_append_left hb];exact hm,fun b own x hb hm=>⟨x,old hb hm⟩,fun b l own x hb h1 h2=> .inl (far hb h1 h2)⟩⟩
 ·rw [List.length_append,List.length_map] at hb
  rw [hi O_]
  exact h.r.dom _ (by rw [List.length_append];omega)
 ·rcases Nat.lt_or_ge b m.length with hs | hs
  ·rw [lo hs] at hb
   exact (hR.rows b l own x hb (old hs hm)).heap (h.trans.keep l.c (hR.lt hb (old hs hm)) (unown _)) hle
  ·obtain ⟨y,hy,rfl⟩:=new hs hm
   rw [hi hs] at hb
   exact (h.r.rows _ l own y hb hy).ren same
 ·rcases Nat.lt_or_ge b m.length with hs | hs<;>rcases Nat.lt_or_ge b' m.length with hs' | hs'
  ·rw [lo hs] at hb
   rw [lo hs'] at hb'
   exact hR.inj b b' l l' own own' x x' hne hb hb' (old hs hm) (old hs' hm') hoo
  ·rw [lo hs] at hb
   have h1:=hR.lt hb (old hs hm)
   have h2:=far hs' hb' hm'
   omega
  ·rw [lo hs'] at hb'
   have h1:=hR.lt hb' (old hs' hm')
   have h2:=far hs hb hm
   omega
  ·obtain ⟨y,hy,_⟩:=new hs hm
   obtain ⟨y',hy',_⟩:=new hs' hm'
   rw [hi hs] at hb
   rw [hi hs'] at hb'
   exact h.r.inj _ _ l l' own own' y y' O_ hb hb' hy hy' hoo
 ·rcases Nat.lt_or_ge b m.length with hs | hs
  ·rw [lo hs] at hb
   rcases (h.stayn (hc.to ι1)).imp (fun k=>k.cast htx) id with h3 | h3 | h3
   ·exact (hR.stay c Φ (h3.to ι)).2 b l x hb (old hs hm) e
   ·have:=hR.lt hb (old hs hm);omega
   ·exact unown _ h3
  ·obtain ⟨y,hy,_⟩:=new hs hm
   rw [hi hs] at hb
   exact (h.r.stay c Φ (hc.to ι1)).2 _ l y hb hy e
 ·obtain ⟨b,l,x,hb,hm,rfl⟩:=hc
  rcases Nat.lt_or_ge b m.length with hs | hs
  ·rw [lo hs] at hb
   exact .inr ⟨b,l,x,hb,old hs hm,rfl⟩
  ·exact .inl (far hs hb hm)
end
inductive FT (m:Ak):List (Option (Nat×Nat))→Ak→Prop
 |nil:FT m [] []
 |no {r:Row} {os:List (Option (Nat×Nat))} {m':Ak} (hl:FT m os m'):FT m (none::os) (r::m')
 |a8 {i o n:Nat} {own:Bool} {b:AB 8} {os:List (Option (Nat×Nat))} {m':Ak} (hm:m[i]?=some (.row own (.a8 b))) (h:o+n≤b.length) (hl:FT m os m'):FT m (some (i,o)::os) (.row false (.a8 (cut b o n))::m')
 |all {i:Nat} {own:Bool} {x:Arr} {os:List (Option (Nat×Nat))} {m':Ak} (hm:m[i]?=some (.row own x)) (h:x.ren MG=x) (hl:FT m os m') (hx:x.isMap=false:=by rfl):FT m (some (i,0)::os) (.row false x::m')
def U3(os:List (Option (Nat×Nat)))(j:Nat):Option (Nat×Nat):=(os[j]?).bind id
theorem FT.get{m:Ak}{os:List (Option (Nat×Nat))}{m':Ak}(h:FT m os m'):∀ {j i o:Nat},os[j]?=some (some (i,o))→j<m'.length∧ ∃own x y,m[i]?=some (.row own x)∧m'[j]?=some (.row false y)∧o+y.size≤x.size∧(∀k,k<y.size→y.get k=x.get (o+k))∧y.ren MG=y∧x.isMap=false∧y.isMap=false:=by
 induction h with
 |nil=>intro j i o hj;simp at hj
 |no _ ih=>
  intro j i o hj
  cases j with
  |zero=>simp at hj
  |succ j=>
   rw [List.getElem?_cons_succ] at hj
   obtain ⟨h1,ow,x,y,h2,h3,h4⟩:=ih hj
   exact ⟨by simpa using h1,ow,x,y,h2,by rw [List.getElem?_cons_succ];exact h3,h4⟩
 |@a8 i o n own b os m' hm h _ ih=>
  intro j i' o' hj
  cases j with
  |zero=>
   simp only [List.getElem?_cons_zero,Option.some.injEq,Prod.mk.injEq] at hj
   obtain ⟨rfl,rfl⟩:=hj
   have hl:(cut b o n).length=n:=by simp [cut];omega
   refine ⟨by simp,own,.a8 b,.a8 (cut b o n),hm,rfl,by show o+(cut b o n).length≤b.length;omega,fun k hk=>?_,rfl,rfl,rfl⟩
   have hk':k<n:=by have:k<(cut b o n).length:=hk;omega
   show Cell.val (U8 (nth (cut b o n) k))=Cell.val (U8 (nth b (o+k)))
   rw [show nth (cut b o n) k=nth b (o+k) from Pa b o n k _ hk']
  |succ j=>
   rw [List.getElem?_cons_succ] at hj
   obtain ⟨h1,ow,x,y,h2,h3,h4⟩:=ih hj
   exact ⟨by simpa using h1,ow,x,y,h2,by rw [List.getElem?_cons_succ];exact h3,h4⟩
 |@all i own x os m' hm h _ hx ih=>
  intro j i' o' hj
  cases j with
  |zero=>
   simp only [List.getElem?_cons_zero,Option.some.injEq,Prod.mk.injEq] at hj
   obtain ⟨rfl,rfl⟩:=hj
   exact ⟨by simp,own,x,x,hm,rfl,by omega,fun k hk=>by rw [Nat.zero_add],h,hx,hx⟩
  |succ j=>
   rw [List.getElem?_cons_succ] at hj
   obtain ⟨h1,ow,x,y,h2,h3,h4⟩:=ih hj
   exact ⟨by simpa using h1,ow,x,y,h2,by rw [List.getElem?_cons_succ];exact h3,h4⟩
theorem FT.of{m:Ak}{os:List (Option (Nat×Nat))}{m':Ak}(h:FT m os m'):PartOf (U3 os) m m':=by
 intro j i o hj
 unfold U3 at hj
 obtain ⟨o',h1,h2⟩:=Option.bind_eq_some_iff.1 hj
 simp only [id_eq] at h2
 subst h2
 exact h.get h1
def gj(m:Ak):Bool:=m.all fun | .row true _=>false | _=>true
theorem P2{m:Ak}(h:gj m=true){b:Nat}{own:Bool}{x:Arr}(hm:m[b]?=some (.row own x)):own=false:=by
 have:=List.all_eq_true.1 h _ (List.mem_of_getElem? hm)
 cases own with
 |false=>rfl
 |true=>cases this
inductive QV (m':Ak):List Nat→List AV→List AV→Prop
 |nil:QV m' [] [] []
 |same {fs:List Nat} {x:AV} {l l':List AV} (h:QV m' fs l l'):QV m' fs (x::l) (x::l')
 |bs {fs:List Nat} {b:Nat} {y:AB 8} {l l':List AV} (hm:m'[b]?=some (.row false (.a8 y))) (hb:fs.contains b=false) (h:QV m' fs l l'):QV m' (b::fs) (.c (.bs y)::l) (.c (.sl b 0 y.length y.length 1)::l')
 |is {fs:List Nat} {b:Nat} {y:List Int} {l l':List AV} (hm:m'[b]?=some (.row false (.ai y))) (hb:fs.contains b=false) (h:QV m' fs l l'):QV m' (b::fs) (.c (.is y)::l) (.c (.sl b 0 y.length y.length 1)::l')
theorem cl{ι:Emb}{m':Ak}{w:World}(hR:R ι m' w)(hro:gj m'=true){b:Nat}{y:Arr}(hm:m'[b]?=some (.row false y))(hb:ι b=none)(hy:y.isMap=false){g:Nat→Value}(hg:∀(ι:Emb) i,i<y.size→(y.get i).rel ι (g i)){v:Value}(hv:Co ι g y.size v):
  ∃ι':Emb,R ι' m' w∧ι'.tx=ι.tx∧ι.le ι'∧(∀i,i≠b→ι' i=ι i)∧Cell.rel ι' (.sl b 0 y.size y.size 1) v:=by
 obtain ⟨p,cap,rfl,h1,h2⟩:=hv
 rcases h2 with h2 | ⟨c,o,rfl,⟨o',v',hbb⟩,hr⟩
 ·exact ⟨ι,hR,rfl,.refl _,fun _ _=>rfl,⟨p,cap,rfl,h1,h1,.inl h2⟩⟩
 ·obtain ⟨⟨cs,t,fr,e1,e2⟩,_⟩:=hR.txt _ _ _ hbb
  have hle:ι.le (ι.upd b ⟨c,o,cap⟩):=⟨fun i l hi=>by
   by_cases e:i=b
   ·subst e;rw [hb] at hi;cases hi
   ·rw [Emb.upd_ne e];exact hi,fun _ _ _ h=>h⟩
  refine ⟨ι.upd b ⟨c,o,cap⟩,⟨fun i hi=>?_,fun i l own x hi h3=>?_,fun i i' l l' own own' x x' _ _ _ h3 h3' ho=>?_,fun c Φ hc=>⟨(hR.stay c Φ (hc.to ι)).1,fun i l x _ h3=>?_⟩⟩,rfl,hle,fun i hi=>Emb.upd_ne hi,⟨_,cap,rfl,h1,h1,.inr ⟨_,Emb.upd_eq _ _ _,rfl,by simp⟩⟩⟩
  ·have:i≠b:=fun e=>by
    have:=(List.getElem?_eq_some_iff.1 hm).1
    omega
   rw [Emb.upd_ne this];exact hR.dom i hi
  ·by_cases e:i=b
   ·subst e
    rw [Emb.upd_eq] at hi
    cases hi
    rw [hm] at h3;cases h3
    refine .of hy ⟨cs,t,fr,e1,h1,fun j hj=>?_,fun h=>by cases h⟩
    obtain ⟨⟨cs',t',fr',f1,f2⟩,_⟩:=hR.txt _ _ _ (hr j hj)
    rw [e1] at f1;cases f1
    exact ⟨_,f2,hg _ j hj⟩
   ·rw [Emb.upd_ne e] at hi
    exact (hR.rows i l own x hi h3).mono hle
  ·rcases ho with ho | ho
   ·have:=P2 hro h3;subst ho;cases this
   ·have:=P2 hro h3';subst ho;cases this
  ·have:=P2 hro h3;cases this
end Go.Proofs.YtmbepikkgkcgkaaGreatDoor
