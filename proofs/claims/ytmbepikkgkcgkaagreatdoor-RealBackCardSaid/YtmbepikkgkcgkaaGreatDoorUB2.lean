/- Merged and shortened by a program: part 2. -/
import Derived.Test.YtmbepikkgkcgkaaGreatDoorUB1
set_option maxRecDepth 100000
set_option maxHeartbeats 8000000
namespace Go.Proofs.YtmbepikkgkcgkaaGreatDoor
open Go.RowKit
variable {g r : Prop}
open Go.Proofs.Tryz
def Eg:Nat→List (Nat×AV)→Option (List Value)
 |_,[]=>some []
 |i,(j,.c (.val v))::r=>if j=i∧v.oneCell'=true then (Eg (i+1) r).map (v:: ·) else none
 |_,_=>none
theorem JY{ι:Emb}:∀ {i:Nat} {parts:List (Nat×AV)} {vs:List Value} {ps:List (Nat×Value)},Eg i parts=some vs→MH ι parts ps→ps=(vs.zipIdx i).map (fun x=>(x.2,x.1))∧ ∀v∈vs,v.oneCell'=true
 |i,[],vs,ps,h,hp=>by
  cases ps with
  |nil=>simp only [Eg,Option.some.injEq] at h;subst h;exact ⟨rfl,fun v h=>by cases h⟩
  |cons=>exact hp.elim
 |i,(j,a)::l,vs,ps,h,hp=>by
  cases ps with
  |nil=>exact hp.elim
  |cons p m=>
   obtain ⟨j',u⟩:=p
   obtain ⟨rfl,ha,hp⟩:=hp
   unfold Eg at h
   split at h
   ·rename_i heq;cases heq
   ·rename_i j2 v2 r2 heq
    cases heq
    split at h
    ·rename_i hc
     obtain ⟨rfl,hone⟩:=hc
     obtain ⟨ws,hw,rfl⟩:=Option.map_eq_some_iff.1 h
     obtain ⟨e1,e2⟩:=JY hw hp
     obtain rfl:u=_:=ha
     refine ⟨by rw [e1];rfl,fun x hx=>?_⟩
     rcases List.mem_cons.1 hx with rfl | hx
     ·exact hone
     ·exact e2 x hx
    ·cases h
   ·cases h
theorem RJ{vs:List Value}{cs:Array Value}(h1:∀v∈vs,v.oneCell'=true)(hs:cs.size=vs.length):Instr.fill (fun i=>some (i*1,1)) cs ((vs.zipIdx 0).map fun x=>(x.2,x.1))=some vs.toArray:=
 Great.fill_flat _ _ (fun v hv=>by rw [cells_one (h1 v hv)]) hs.symm
def B0(P:Program)(t:TypeId)(parts:List (Nat×AV)):Option AV:=
 match P.info? t,P.underlying t with
 |some it,some (.array n e)=>
  match it.zero,P.info? e with
  |some z,some ie=>
   match (if ie.size=1∧parts.length=n∧z.cells.size=n then Eg 0 parts else none) with
   |some vs=>some (.agg (B5 vs))
   |none=>(HX (fun i=>some (i*ie.size,ie.size)) (B5 z.cells.toList) parts).map .agg
  |_,_=>none
 |some it,some (.struct fields)=>
  match it.zero,fields.toList.mapM (fun f=>(P.info? f.type).map fun i=>(f.offset,i.size)) with
  |some z,some places=>(HX (places.toArray[·]?) (B5 z.cells.toList) parts).map .agg
  |_,_=>none
 |_,_=>none
theorem Dq:∀ {i:Nat} {parts:List (Nat×AV)} {vs:List Value},Eg i parts=some vs→vs.length=parts.length
 |i,[],vs,h=>by simp only [Eg,Option.some.injEq] at h;subst h;rfl
 |i,(j,a)::l,vs,h=>by
  unfold Eg at h
  split at h
  ·rename_i heq;cases heq
  ·rename_i heq
   cases heq
   split at h
   ·obtain ⟨ws,hw,rfl⟩:=Option.map_eq_some_iff.1 h
    simp [Dq hw]
   ·cases h
  ·cases h
theorem Ko(ι:Emb)(vs:List Value):(B5 vs).relAt ι vs.toArray 0:=by have:=Ji ι vs.toArray;simpa using this
theorem XA{P:Program}{t:TypeId}{parts:List (Nat×AV)}{v:AV}(h:B0 P t parts=some v){ι:Emb}{vs:Array (Nat×Value)}(hp:MH ι parts vs.toList)(w:World):∃u,(Instr.build t vs).run P w= .ok u w∧v.rel ι u:=by
 unfold B0 at h
 split at h
 ·rename_i it n e hit hu
  split at h
  ·rename_i z ie hz hie
   split at h
   ·rename_i us hus
    split at hus
    ·rename_i hc
     cases h
     obtain ⟨e1,e2⟩:=JY hus hp
     have hl:=Dq hus
     refine ⟨.agg us.toArray,run_build w t vs _ ?_,⟨_,rfl,by rw [(D4 ι us).1];simp,Ko ι us⟩⟩
     unfold Program.built
     simp only [hit,hu,hz,hie]
     rw [e1,hc.1]
     exact RJ e2 O_
    ·cases hus
   ·obtain ⟨y,hy,rfl⟩:=Option.map_eq_some_iff.1 h
    obtain ⟨cs',k1,k2,k3⟩:=Ir hy hp (cs:=z.cells) (by rw [(D4 ι _).1];simp) (Ji ι _)
    refine ⟨.agg cs',run_build w t vs _ ?_,⟨_,rfl,k2,k3⟩⟩
    unfold Program.built
    simp only [hit,hu,hz,hie]
    exact k1
  ·cases h
 ·rename_i it fields hit hu
  split at h
  ·rename_i z places hz hpl
   obtain ⟨y,hy,rfl⟩:=Option.map_eq_some_iff.1 h
   obtain ⟨cs',k1,k2,k3⟩:=Ir hy hp (cs:=z.cells) (by rw [(D4 ι _).1];simp) (Ji ι _)
   refine ⟨.agg cs',run_build w t vs _ ?_,⟨_,rfl,k2,k3⟩⟩
   unfold Program.built
   simp only [hit,hu,hz,hpl]
   exact k1
  ·cases h
 ·cases h
def R3(P:Program)(ι:Emb)(M:Ak)(w:World)(v:AV)(M':Ak)(s:Sem Value):Prop:= ∃u w' ι',s.run P w= .ok u w'∧v.rel ι' u∧Step M.length ι M w ι' M' w'
def JG(P:Program)(el:TypeId)(n:Nat):Option Arr:=
 match P.info? el with
 |some i=>match i.zero with
  |some (.int .u8 0)=>some (.a8 (List.replicate n 0#8))
  |some (.int .u32 0)=>some (.a32 (List.replicate n 0#32))
  |some (.int .u64 0)=>some (.a64 (List.replicate n 0#64))
  |some (.int .i64 0)=>some (.ai (List.replicate n 0))
  |some z=>if z.oneCell' then some (.ac (List.replicate n (SB z))) else if n*i.size≤4096 then some (B5 ((List.range (n*i.size)).map fun k=>z.cells[k%z.cells.size]!)) else none
  |none=>none
 |none=>none
theorem Hq(vs:List Value):(B5 vs).isMap=false:=by
 unfold B5
 split
 ·rfl
 ·split
  ·rfl
  ·split
   ·rfl
   ·split<;>rfl
theorem aO{P:Program}{el:TypeId}{n:Nat}{x:Arr}(h:JG P el n=some x):x.isMap=false:=by
 unfold JG at h
 split at h
 ·split at h<;>(first | (cases h;rfl) | skip)
  split at h
  ·cases h;rfl
  ·split at h
   ·cases h;exact Hq _
   ·cases h
  ·cases h
 ·cases h
theorem Rg{P:Program}{el:TypeId}{n:Nat}{x:Arr}(h:JG P el n=some x){i:TypeInfo}{z:Value}(hi:P.info? el=some i)(hz:i.zero=some z)(hs:z.cells.size=i.size)(ι:Emb):
  x.size=n*i.size∧x.relAt ι ((Array.range (n*i.size)).map (z.cells[· %z.cells.size]!)) 0:=by
 have one:∀(c:Cell) (l:Arr),z.oneCell'=true→l.size=n→(∀k,k<n→l.get k=c)→c.rel ι z→l.size=n*i.size∧l.relAt ι ((Array.range (n*i.size)).map (z.cells[· %z.cells.size]!)) 0:=by
  intro c l h1 hl hg hr
  have hc:=cells_one h1
  have h1':i.size=1:=by rw [←hs,hc];rfl
  refine ⟨by rw [hl,h1'];omega,fun k hk=>⟨z,?_,by rw [hg k O_];exact hr⟩⟩
  have hkn:k<n*i.size:=by rw [h1'];omega
  rw [Nat.zero_add,Array.getElem?_map,Array.getElem?_range,if_pos hkn,hc]
  simp [Nat.mod_one]
 unfold JG at h
 rw [hi] at h
 simp only [hz] at h
 split at h<;>(try cases h)
 ·rename_i e;cases e
  exact one (.val (.int .u8 0)) _ rfl (by simp [Arr.size]) (fun k hk=>by simp [Arr.get,nth,hk,tn]) rfl
 ·rename_i e;cases e
  exact one (.val (.int .u32 0)) _ rfl (by simp [Arr.size]) (fun k hk=>by simp [Arr.get,nth,hk,tn]) rfl
 ·rename_i e;cases e
  exact one (.val (.int .u64 0)) _ rfl (by simp [Arr.size]) (fun k hk=>by simp [Arr.get,nth,hk,tn]) rfl
 ·rename_i e;cases e
  exact one (.val (.int .i64 0)) _ rfl (by simp [Arr.size]) (fun k hk=>by simp [Arr.get,AX,hk]) rfl
 ·rename_i z' _ _ _ _ e;cases e
  split at h
  ·rename_i h1
   cases h
   exact one (SB z) _ h1 (by simp [Arr.size]) (fun k hk=>by simp [Arr.get,Ti,hk]) (UT ι z)
  ·split at h
   ·cases h
    refine ⟨by rw [(D4 ι _).1];simp,?_⟩
    have:=Ko ι ((List.range (n*i.size)).map fun k=>z.cells[k%z.cells.size]!)
    have e:((List.range (n*i.size)).map fun k=>z.cells[k%z.cells.size]!).toArray=(Array.range (n*i.size)).map (z.cells[· %z.cells.size]!):=by
     apply Array.ext';simp
    rw [e] at this
    exact this
   ·cases h
def Cq(P:Program)(M:Ak)(t:TypeId)(len:Nat)(parts:List (Nat×AV)):Option (AV×Ak):=
 match P.underlying t with
 |some (.slice el)=>
  match Bi P el with
  |some (sz,_)=>
   if len=0 then (if parts.length=0 then some (.c .esl,M) else none)
   else if len*sz≤16777216 then
    match (if sz=1∧parts.length=len then Eg 0 parts else none) with
    |some vs=>some (.c (.sl M.length 0 len len sz),M++[.row true (B5 vs)])
    |none=>match JG P el len with
     |some x=>match HX (fun i=>some (i*sz,sz)) x parts with
      |some y=>some (.c (.sl M.length 0 len len sz),M++[.row true y])
      |none=>none
     |none=>none
   else none
  |none=>none
 |_=>none
theorem Ua{P:Program}{t el:TypeId}{i:TypeInfo}(hu:P.underlying t=some (.slice el))(hi:P.info? el=some i)(w:World):(Instr.buildSlice t 0 #[]).run P w= .ok (.slice (some ⟨w.heap.size,0,none⟩) 0 0) (w.alloc (.cells #[] el)):=by
 simp [Instr.buildSlice,run_underlying hu,sizeOf,typeInfo,hi,Instr.fill,newRow,show Array.range 0= #[] from rfl]
theorem dg{ι:Emb}{M:Ak}{w:World}(hR:R ι M w)(cs:Array Value)(t:TypeId):Step M.length ι M w ι M (w.alloc (.cells cs t)):=by
 have old:∀c,c<w.heap.size→(w.alloc (.cells cs t)).heap[c]?=w.heap[c]?:=fun c hc=>by rw [Gg,if_neg O_]
 refine Step.make hR hR.dom (fun b l own x hb hm=>?_) hR.inj ⟨rfl,rfl,rfl,by rw [size_alloc];omega,fun c hc _=>old c hc,fun c h=> .inr h⟩ rfl (fun _ _=>rfl) (Nat.le_refl _) (fun _ _ _ h=>h) (fun _ _ x _ h=>⟨x,h⟩) (fun b l own x hb h1 h2=>(H9 hb h2).elim)
 exact (hR.rows b l own x hb hm).heap (old _ (hR.lt hb hm)) (.refl _)
theorem Xw{P:Program}{ι:Emb}{M:Ak}{w:World}(hR:R ι M w){cs:Array Value}{t:TypeId}{x:Arr}{len sz:Nat}{s:Sem Value}(hs:cs.size=len*sz)(hxs:x.size≤cs.size)(hx:x.relAt ι cs 0)(hmp:x.isMap=false)
  (hrun:s.run P w= .ok (.slice (some ⟨w.heap.size,0,none⟩) len len) (w.alloc (.cells cs t))):R3 P ι M w (.c (.sl M.length 0 len len sz)) (M++[.row true x]) s:=by
 have hst:=Gu (w':=w.alloc (.cells cs t)) (t:=t) hR rfl rfl rfl rfl hxs hx hmp
 exact ⟨_,_,_,hrun,⟨_,len,rfl,Nat.le_refl _,Nat.le_refl _,.inr ⟨_,Emb.upd_eq _ _ _,rfl,by simp only;omega⟩⟩,hst.1⟩
theorem RS{P:Program}{M M':Ak}{t:TypeId}{len:Nat}{parts:List (Nat×AV)}{v:AV}(h:Cq P M t len parts=some (v,M')){ι:Emb}{w:World}(hR:R ι M w){vs:Array (Nat×Value)}(hp:MH ι parts vs.toList):
  R3 P ι M w v M' (Instr.buildSlice t len vs):=by
 unfold Cq at h
 split at h
 ·rename_i el hu
  split at h
  ·rename_i sz by' hel
   obtain ⟨i,z,hi,hz,rfl,rfl,hzs,hsz⟩:=Ip hel
   split at h
   ·rename_i h0
    subst h0
    split at h
    ·rename_i hpl
     cases h
     obtain rfl:parts=[]:=List.eq_nil_of_length_eq_zero hpl
     have hv:vs= #[]:=by
      cases hl:vs.toList with
      |nil=>exact Array.toList_eq_nil_iff.1 hl
      |cons a b=>rw [hl] at hp;exact hp.elim
     subst hv
     exact ⟨_,_,ι,Ua hu hi w,⟨_,rfl⟩,dg hR _ _⟩
    ·cases h
   ·rename_i h0
    split at h
    ·rename_i hle
     have hpos:¬len*i.size=0:=by
      have:=Nat.mul_pos (Nat.pos_of_ne_zero h0) hsz
      omega
     split at h
     ·rename_i us hus
      split at hus
      ·rename_i hc
       cases h
       obtain ⟨e1,e2⟩:=JY hus hp
       have hl:=Dq hus
       refine Xw hR (cs:=us.toArray) (by rw [hc.1];simp;omega) (by rw [(D4 ι us).1];simp) (Ko ι us) (Hq us) (run_buildSlice w t el len vs _ i z hu hi hz O_ hpos ?_)
       rw [e1,hc.1]
       exact RJ e2 (by simp;omega)
      ·cases hus
     ·split at h
      ·rename_i x hx
       split at h
       ·rename_i y hy
        cases h
        obtain ⟨r1,r2⟩:=Rg hx hi hz hzs ι
        obtain ⟨cs',k1,k2,k3⟩:=Ir hy hp (cs:=(Array.range (len*i.size)).map (z.cells[· %z.cells.size]!)) (by rw [r1];simp) r2
        have hys:y.size=len*i.size:=by
         have:∀ {pl:Nat→Option (Nat×Nat)} {parts:List (Nat×AV)} {x y:Arr},HX pl x parts=some y→y.size=x.size:=by
          intro pl parts
          induction parts with
          |nil=>intro x y h;cases h;rfl
          |cons p l ih=>
           intro x y h
           obtain ⟨j,a⟩:=p
           unfold HX at h
           split at h
           ·split at h
            ·obtain ⟨x',hx',h⟩:=Option.bind_eq_some_iff.1 h
             rw [ih h,(Arr.set_spec hx').1]
            ·cases h
           ·split at h
            ·rename_i hc
             obtain ⟨x',hx',h⟩:=Option.bind_eq_some_iff.1 h
             rw [ih h,(Arr.putW_spec hx' hc.2).1]
            ·cases h
           ·cases h
         rw [this hy,r1]
        exact Xw hR (by rw [k2,hys]) (by rw [k2];exact Nat.le_refl _) k3 (Arr.noMap (by rw [hys];omega)) (run_buildSlice w t el len vs _ i z hu hi hz O_ hpos k1)
       ·cases h
      ·cases h
    ·cases h
  ·cases h
 ·cases h
def F4(P:Program)(M:Ak)(t:TypeId)(l c:AV):Option (AV×Ak):=
 match P.underlying t,Fc l,Fc c with
 |some (.slice el),some n,some m=>
  match Bi P el with
  |some (sz,by')=>
   if 0≤n∧n≤m∧m*by'≤281474976710656∧m≤9223372036854775807 then
    (JG P el m.toNat).map fun x=>(.c (.sl M.length 0 n.toNat m.toNat sz),M++[.row true x])
   else none
  |none=>none
 |_,_,_=>none
theorem wrap_small{m:Int}(h0:0≤m)(h1:m≤9223372036854775807):IntKind.i64.wrap m=m:=
 IntWalk.i64_in m O_
theorem Rj{P:Program}{M M':Ak}{t:TypeId}{l c v:AV}(h:F4 P M t l c=some (v,M')){ι:Emb}{w:World}(hR:R ι M w){p q:Value}(hl:l.rel ι p)(hc:c.rel ι q):
  R3 P ι M w v M' (Instr.makeSlice t p q):=by
 unfold F4 at h
 split at h
 ·rename_i el n m hu hn hm
  obtain ⟨k1,rfl⟩:=G8 hn hl
  obtain ⟨k2,rfl⟩:=G8 hm hc
  split at h
  ·rename_i sz by' hel
   obtain ⟨i,z,hi,hz,rfl,rfl,hzs,hsz⟩:=Ip hel
   split at h
   ·rename_i hcc
    obtain ⟨c0,c1,c2,c3⟩:=hcc
    obtain ⟨x,hx,he⟩:=Option.map_eq_some_iff.1 h
    cases he
    obtain ⟨nn,rfl⟩:=Int.eq_ofNat_of_zero_le c0
    obtain ⟨mm,rfl⟩:=Int.eq_ofNat_of_zero_le (Int.le_trans c0 c1)
    simp only [Int.toNat_natCast] at hx ⊢
    obtain ⟨r1,r2⟩:=Rg hx hi hz hzs ι
    have w1:=wrap_small (m:=(nn:Int)) O_ O_
    have w2:=wrap_small (m:=(mm:Int)) O_ c3
    have hb:¬(281474976710656:Int)<i.bytes*mm:=by rw [Int.mul_comm];omega
    have e0:(if mm*i.size=0 then #[] else z.cells:Array Value)= #[]∨(if mm*i.size=0 then #[] else z.cells:Array Value)=z.cells:=by split<;>simp
    have hrun:(Instr.makeSlice t (.int k1 nn) (.int k2 mm)).run P w= .ok (.slice (some ⟨w.heap.size,0,none⟩) nn mm) (w.alloc (.cells ((Array.range (mm*i.size)).map (z.cells[· %z.cells.size]!)) el)):=by
     by_cases hz0:mm*i.size=0
     ·have hmm:¬(mm<nn):=by omega
      simp [Instr.makeSlice,run_underlying hu,asInt,asIntOf,typeInfo,sizeOf,hi,w1,w2,hb,hmm,hz0,newRow,show Array.range 0= #[] from rfl]
      intro hneg;exfalso;omega
     ·have hmm:¬(mm<nn):=by omega
      simp [Instr.makeSlice,run_underlying hu,asInt,asIntOf,typeInfo,sizeOf,zeroValue,hi,hz,w1,w2,hb,hmm,hz0,newRow]
      intro hneg;exfalso;omega
    have hst:=Gu (w':=w.alloc (.cells ((Array.range (mm*i.size)).map (z.cells[· %z.cells.size]!)) el)) (t:=el) hR rfl rfl rfl rfl (by rw [r1];simp) r2 (aO hx)
    exact ⟨_,_,_,hrun,⟨_,mm,rfl,Nat.le_refl _,by omega,.inr ⟨_,Emb.upd_eq _ _ _,rfl,by simp⟩⟩,hst.1⟩
   ·cases h
  ·cases h
 ·cases h
def S5:AV→Option Arr
 |.agg y=>if y.isMap=true then none else some y
 |.c (.val v)=>if v.oneCell' then some (B5 [v]) else none
 |.c .any=>none
 |.c y=>some (.ac [y])
 |.tup _=>none
theorem Z0{v:AV}{x:Arr}(h:S5 v=some x){ι:Emb}{u:Value}(hr:v.rel ι u):x.size=u.cells.size∧x.relAt ι u.cells 0:=by
 unfold S5 at h
 split at h<;>(try cases h)
 ·split at h
  ·cases h
  ·cases h
   obtain ⟨cs,rfl,h1,h2⟩:=hr
   exact ⟨h1.symm,h2⟩
 ·split at h
  ·rename_i h1
   cases h
   obtain rfl:u=_:=hr
   rw [cells_one h1]
   exact ⟨by rw [(D4 ι _).1];rfl,Ko ι [u]⟩
  ·cases h
 ·rename_i y hn1 hn2
  have hone:y.one=true:=by
   cases y with
   |any=>exact absurd rfl hn2
   |val v=>exact absurd rfl (hn1 v)
   |_=>rfl
  have h1:=Cell.rel_one hr hone
  rw [cells_one h1]
  refine ⟨rfl,fun i hi=>⟨u,?_,?_⟩⟩
  ·obtain rfl:i=0:=by simp [Arr.size] at hi;exact hi
   rfl
  ·obtain rfl:i=0:=by simp [Arr.size] at hi;exact hi
   exact hr
theorem aJ{v:AV}{x:Arr}(h:S5 v=some x):x.isMap=false:=by
 unfold S5 at h
 split at h<;>(try cases h)
 ·split at h
  ·cases h
  ·rename_i hm;cases h;simpa using hm
 ·split at h
  ·cases h;exact Hq _
  ·cases h
 ·rfl
def Cp(P:Program)(M:Ak)(t:TypeId):Option (AV×Ak):=
 match P.info? t with
 |some i=>match i.zero with
  |some z=>some (.c (.ptr M.length 0),M++[.row true (B5 z.cells.toList)])
  |none=>none
 |none=>none
theorem W8{P:Program}{M M':Ak}{t:TypeId}{v:AV}(h:Cp P M t=some (v,M')){ι:Emb}{w:World}(hR:R ι M w):R3 P ι M w v M' (Instr.alloc t true (.tuple #[])):=by
 unfold Cp at h
 split at h
 ·rename_i i hi
  split at h
  ·rename_i z hz
   cases h
   have hst:=Gu (w':=w.alloc (.cells z.cells t)) (t:=t) hR rfl rfl rfl rfl (by rw [(D4 ι z.cells.toList).1];simp) (Ji ι z.cells) (Hq _)
   refine ⟨.pointer (some ⟨w.heap.size,0,none⟩),_,_,?_,⟨_,Emb.upd_eq _ _ _,rfl⟩,hst.1⟩
   simp [Instr.alloc,zeroValue,typeInfo,hi,hz,newVar,newRow]
  ·cases h
 ·cases h
def iX(M:Ak)(v:AV):Option (AV×Ak):=(S5 v).map fun x=>(.c (.ptr M.length 0),M++[.row true x])
theorem cF{P:Program}{M M':Ak}{t:TypeId}{x v:AV}(h:iX M x=some (v,M')){ι:Emb}{w:World}(hR:R ι M w){u:Value}(hx:x.rel ι u):R3 P ι M w v M' (Instr.box t u):=by
 obtain ⟨y,hy,he⟩:=Option.map_eq_some_iff.1 h
 cases he
 obtain ⟨r1,r2⟩:=Z0 hy hx
 have hst:=Gu (w':=w.alloc (.cells u.cells t)) (t:=t) hR rfl rfl rfl rfl (by rw [r1];exact Nat.le_refl _) r2 (aJ hy)
 refine ⟨.pointer (some ⟨w.heap.size,0,none⟩),_,_,?_,⟨_,Emb.upd_eq _ _ _,rfl⟩,hst.1⟩
 simp [Instr.box,newVar,newRow]
def Ic (P : Program) (M : Ak) (t : TypeId) (a v : AV) : Option Ak :=
  match a with
  | .c (.ptr b o) =>
    match M[b]? with
    | some (.row true x) =>
      match v with
      | .c y => if y.one = true ∧ De P t = some 1 ∧ o < x.size then (x.set o y).map fun z => M.set b (.row true z) else none
      | .agg y => if y.one = true ∧ De P t = some y.size ∧ o + y.size ≤ x.size ∧ x.isMap = false then
          (if o = 0 ∧ y.size = x.size then some (M.set b (.row true y)) else (x.putW o y).map fun z => M.set b (.row true z)) else none
      | .tup _ => none
    | _ => none
  | _ => none
theorem KQ{P:Program}{w:World}{t:TypeId}{c o:Nat}{cs:Array Value}{t':TypeId}{v:Value}(hsz:De P t=some v.cells.size)(h:w.heap[c]?=some (.cells cs t' (0,0)))(hfit:o+v.cells.size≤cs.size)(h1:∀u∈v.cells.toList,u.oneCell'=true):
  (storeVar t ⟨c,o,none⟩ v).run P w= .ok () (w.setRow c (cs.toList.take o++v.cells.toList++cs.toList.drop (o+v.cells.toList.length)).toArray):=by
 have hst:=run_storeCells_at P c o t' v.cells.toList 0 cs w h (by simpa using hfit) h1
 simp only [Nat.add_zero] at hst
 simp only [storeVar,Sem.run_bind,CG hsz,Result.andThen_ok]
 rw [if_neg (by simp)]
 simpa using hst
theorem V4{ι:Emb}{x z:Arr}{cs vs:Array Value}{off o:Nat}{g:Nat→Cell}(hx:x.relAt ι cs off)(hz:z.size=x.size)(hfit:o+vs.size≤x.size)
  (hg:∀j,j<x.size→z.get j=if o≤j∧j<o+vs.size then g (j-o) else x.get j) (hv:∀j,j<vs.size→ ∃v,vs[j]?=some v∧(g j).rel ι v):
  z.relAt ι (cs.toList.take (off+o)++vs.toList++cs.toList.drop (off+o+vs.toList.length)).toArray off:=by
 intro j hj
 rw [hz] at hj
 rw [hg j hj]
 obtain ⟨u,hu,hr⟩:=hx j hj
 have hjc:=(Array.getElem?_eq_some_iff.1 hu).1
 obtain ⟨u2,hu2,_⟩:=hx (o+vs.size-1) O_
 have hjc2:=(Array.getElem?_eq_some_iff.1 hu2).1
 have htl:(List.take (off+o) cs.toList).length=off+o:=by simp;omega
 simp only [List.getElem?_toArray]
 by_cases e:o≤j∧j<o+vs.size
 ·rw [if_pos e]
  obtain ⟨v,hv',hr'⟩:=hv (j-o) O_
  refine ⟨v,?_,hr'⟩
  rw [List.getElem?_append_left (by rw [List.length_append,htl];simp;omega),List.getElem?_append_right O_,htl,←hv',Array.getElem?_toList]
  congr 1;omega
 ·rw [if_neg e]
  refine ⟨u,?_,hr⟩
  by_cases e2:j<o
  ·rw [List.append_assoc,List.getElem?_append_left O_,List.getElem?_take,if_pos O_,Array.getElem?_toList];exact hu
  ·rw [List.getElem?_append_right (by rw [List.length_append,htl];simp;omega),List.getElem?_drop,List.length_append,htl,Array.getElem?_toList,←hu]
   congr 1
   simp;omega
theorem XD{P:Program}{M M':Ak}{t:TypeId}{a v:AV}(h:Ic P M t a v=some M'){ι:Emb}{w:World}(hR:R ι M w){p q:Value}(ha:a.rel ι p)(hv:v.rel ι q):
  ∃w',(Instr.storeAt t p q).run P w= .ok () w'∧Step M.length ι M w ι M' w':=by
 unfold Ic at h
 split at h
 ·rename_i b o
  obtain ⟨loc,hb,rfl⟩:=ha
  split at h
  ·rename_i x hm
   have hxm:x.isMap=false:=by
    split at h
    ·split at h
     ·rename_i hc;exact Arr.noMap O_
     ·cases h
    ·split at h
     ·rename_i hc;exact hc.2.2.2
     ·cases h
    ·cases h
   obtain ⟨cs,t',fr,k1,k2,k3,k4⟩:=hR.cells hb hm hxm
   obtain ⟨rfl,k5⟩:=k4 rfl
   have sz:∀ {vs:Array Value},loc.off+o+vs.size≤cs.size→(cs.toList.take (loc.off+o)++vs.toList++cs.toList.drop (loc.off+o+vs.toList.length)).toArray.size=cs.size:=by
    intro vs h;simp;omega
   split at h
   ·rename_i y
    split at h
    ·rename_i hc
     obtain ⟨hone,hsz,hlt⟩:=hc
     obtain ⟨z,hz,rfl⟩:=Option.map_eq_some_iff.1 h
     obtain ⟨s1,s2⟩:=Arr.set_spec hz
     have h1:q.oneCell'=true:=Cell.rel_one hv hone
     have hq:=cells_one h1
     have hfit:loc.off+o+q.cells.size≤cs.size:=by rw [hq];simp;omega
     have hrun:=KQ (P:=P) (t:=t) (o:=loc.off+o) (v:=q) (by rw [hq];exact hsz) k1 hfit (by rw [hq];intro u hu;simp at hu;subst hu;exact h1)
     have hst:=Qx (y:=z) hR hb hm k1 (sz hfit) O_ (V4 (g:=fun _=>y) k3 s1 (by rw [hq];simp;omega) (by
      intro j hj
      rw [s2 j hj,hq]
      by_cases e:j=o
      ·rw [if_pos e,if_pos ⟨by omega,by simp;omega⟩]
      ·rw [if_neg e,if_neg (by simp;omega)]) (by
      intro j hj
      rw [hq] at hj ⊢
      obtain rfl:j=0:=by simpa using hj
      exact ⟨q,rfl,hv⟩)) (Arr.set_noMap hz)
     refine ⟨_,?_,hst⟩
     simp only [Instr.storeAt,Instr.sureAddr,Sem.run_bind,Sem.run_pure,Result.andThen_ok,hrun]
    ·cases h
   ·rename_i y
    split at h
    ·rename_i hc
     obtain ⟨hone,hsz,hle,_⟩:=hc
     obtain ⟨vs,rfl,hvs,hvr⟩:=hv
     have h1:∀u∈(Value.agg vs).cells.toList,u.oneCell'=true:=by
      intro u hu
      have hu:u∈vs.toList:=hu
      obtain ⟨j,hj,rfl⟩:=List.mem_iff_getElem.1 hu
      have hj':j<vs.size:=by simpa using hj
      obtain ⟨v',hv',hr⟩:=hvr j O_
      rw [Nat.zero_add,Array.getElem?_eq_getElem hj'] at hv'
      cases hv'
      have:=Cell.rel_one hr (Arr.get_one hone O_)
      simpa using this
     have hfit:loc.off+o+vs.size≤cs.size:=by omega
     have hrun:=KQ (P:=P) (t:=t) (o:=loc.off+o) (v:= .agg vs) (by rw [show (Value.agg vs).cells=vs from rfl,hvs];exact hsz) k1 hfit h1
     have hvr':∀j,j<vs.size→ ∃v,vs[j]?=some v∧(y.get j).rel ι v:=fun j hj=>by have:=hvr j O_;rwa [Nat.zero_add] at this
     have fin:∀z:Arr,z.size=x.size→(∀j,j<x.size→z.get j=if o≤j∧j<o+y.size then y.get (j-o) else x.get j)→z.isMap=false→M'=M.set b (.row true z)→ ∃w',(Instr.storeAt t (.pointer (some ⟨loc.c,loc.off+o,none⟩)) (.agg vs)).run P w= .ok () w'∧Step M.length ι M w ι M' w':=by
      rintro z s1 s2 s3 rfl
      have hst:=Qx (y:=z) hR hb hm k1 (sz hfit) O_ (V4 (g:=y.get) k3 s1 O_ (by rw [hvs];exact s2) hvr') s3
      refine ⟨_,?_,hst⟩
      simp only [Instr.storeAt,Instr.sureAddr,Sem.run_bind,Sem.run_pure,Result.andThen_ok,hrun]
      rfl
     split at h
     ·rename_i hw
      cases h
      refine fin y hw.2 (fun j hj=>?_) (Arr.one_noMap hone) rfl
      rw [if_pos ⟨by omega,by omega⟩,hw.1,Nat.sub_zero]
     ·obtain ⟨z,hz,rfl⟩:=Option.map_eq_some_iff.1 h
      obtain ⟨s1,s2⟩:=Arr.putW_spec hz hle
      exact fin z s1 s2 (Arr.putW_noMap hz) rfl
    ·cases h
   ·cases h
  ·cases h
 ·cases h
theorem kw{ι:Emb}{M:Ak}{w:World}(hR:R ι M w){b:Nat}{x y:Arr}(hm:M[b]?=some (.row true x))(hs:y.size=x.size)(hg:∀j,j<x.size→y.get j=x.get j)(hxm:x.isMap=false)(hym:y.isMap=false):Step M.length ι M w ι (M.set b (.row true y)) w:=by
 refine Step.make hR (fun b hb=>hR.dom b (by simpa using hb)) (fun b1 l1 own z hb1 hm1=>?_) (fun b1 b2 l1 l2 o1 o2 z1 z2 hne h1 h2 k1 k2 ho=>?_) ⟨rfl,rfl,rfl,Nat.le_refl _,fun _ _ _=>rfl,fun c hc=>?_⟩ rfl (fun _ _=>rfl) (by simp) (fun b1 z hb1 hm1=>?_) (fun b1 own z hb1 hm1=>?_) (fun b1 l1 own z hb1 h1 h2=>(H9 (by simpa using hb1) h2).elim)
 ·rcases CN hm1 with ⟨hne,hm1⟩ | ⟨rfl,e⟩
  ·exact hR.rows b1 l1 own z hb1 hm1
  ·cases e
   obtain ⟨cs,t,fr,k1,k2,k3,k4⟩:=hR.cells hb1 hm hxm
   exact .of hym ⟨cs,t,fr,k1,by omega,fun i hi=>by rw [hg i O_];exact k3 i O_,k4⟩
 ·rcases CN k1 with ⟨e1,m1⟩ | ⟨rfl,e1⟩<;>rcases CN k2 with ⟨e2,m2⟩ | ⟨rfl,e2⟩
  ·exact hR.inj b1 b2 l1 l2 o1 o2 z1 z2 hne h1 h2 m1 m2 ho
  ·exact hR.inj b1 b2 l1 l2 o1 true z1 x hne h1 h2 m1 hm (.inr rfl)
  ·exact hR.inj b1 b2 l1 l2 true o2 x z2 hne h1 h2 hm m2 (.inl rfl)
  ·exact absurd rfl hne
 ·obtain ⟨b1,l1,z,h1,k1,rfl⟩:=hc
  rcases CN k1 with ⟨e1,k1⟩ | ⟨rfl,e1⟩
  ·exact .inr ⟨b1,l1,z,h1,k1,rfl⟩
  ·exact .inr ⟨b1,l1,x,h1,hm,rfl⟩
 ·rw [List.getElem?_set_ne (fun e=>by subst e;rw [hm] at hm1;cases hm1)];exact hm1
 ·rcases CN hm1 with ⟨hne,hm1⟩ | ⟨rfl,e⟩
  ·exact ⟨z,hm1⟩
  ·cases e;exact ⟨x,hm⟩
theorem nV{ι:Emb}{M:Ak}{w w':World}(hR:R ι M w){cs:Array Value}{t:TypeId}{fr:Nat×Nat}{x:Arr}(hh:w'.heap=w.heap.push (.cells cs t fr))(ho:w'.os=w.os)(ht:w'.tape=w.tape)(hu:w'.output=w.output)
  (hs:x.size≤cs.size) (hx:x.relAt ι cs 0) (hmp:x.isMap=false):Step M.length ι M w (ι.upd M.length ⟨w.heap.size,0,cs.size⟩) (M++[.row false x]) w':=by
 have hle:=hR.upd_le ⟨w.heap.size,0,cs.size⟩
 have old:∀c,c<w.heap.size→w'.heap[c]?=w.heap[c]?:=fun c hc=>by rw [hh,Array.getElem?_push,if_neg O_]
 refine Step.make hR (fun b hb=>?_) (fun b l own y hb hm=>?_) (fun b b' l l' own own' y y' hne hb hb' hm hm' ho=>?_) ⟨ho,ht,hu,by rw [hh];simp,fun c hc _=>old c hc,fun c hc=>?_⟩ rfl (fun b hb=>Emb.upd_ne O_) (by simp) (fun b x hb hm=>by rw [List.getElem?_append_left hb];exact hm) (fun b own x hb hm=>⟨x,by rwa [List.getElem?_append_left hb] at hm⟩) (fun b l own y hb h1 h2=>?_)
 ·simp at hb
  rw [Emb.upd_ne O_];exact hR.dom b O_
 ·rcases Ch hm with ⟨hlt,hm⟩ | ⟨rfl,e⟩
  ·rw [Emb.upd_ne O_] at hb
   exact (hR.rows b l own y hb hm).heap (old _ (hR.lt hb hm)) hle
  ·cases e
   rw [Emb.upd_eq] at hb
   cases hb
   exact .of hmp ⟨cs,t,fr,by rw [hh,Array.getElem?_push,if_pos rfl],hs,hx.mono' hle,fun h=>by cases h⟩
 ·rcases Ch hm with ⟨hlt,hm⟩ | ⟨rfl,e⟩<;>rcases Ch hm' with ⟨hlt',hm'⟩ | ⟨rfl,e'⟩
  ·rw [Emb.upd_ne O_] at hb hb'
   exact hR.inj b b' l l' own own' y y' hne hb hb' hm hm' ho
  ·rw [Emb.upd_ne O_] at hb
   rw [Emb.upd_eq] at hb'
   cases hb'
   have:=hR.lt hb hm
   show l.c≠w.heap.size
   omega
  ·rw [Emb.upd_ne O_] at hb'
   rw [Emb.upd_eq] at hb
   cases hb
   have:=hR.lt hb' hm'
   show w.heap.size≠l'.c
   omega
  ·exact absurd rfl hne
 ·obtain ⟨b,l,y,hb,hm,rfl⟩:=hc
  rcases Ch hm with ⟨hlt,hm⟩ | ⟨rfl,e⟩
  ·rw [Emb.upd_ne O_] at hb
   exact .inr ⟨b,l,y,hb,hm,rfl⟩
  ·cases e
 ·rcases Ch h2 with ⟨hlt,h2⟩ | ⟨rfl,e⟩
  ·omega
  ·rw [Emb.upd_eq] at h1
   cases h1
   exact .inl (Nat.le_refl _)
def WF(P:Program)(M:Ak)(t:TypeId)(d s:AV):Option (AV×Ak):=
 match P.underlying t,d with
 |some (.slice el),.c (.sl b o dl _ sz)=>
  if De P el=some sz∧0<sz then
   match s with
   |.c .nsl | .c .esl=>some (.c (.val (.int .i64 0)),M)
   |.c (.sl b2 o2 n2 _ sz2)=>
    match M[b]?,M[b2]? with
    |some (.row true x),some (.row _ y)=>
     let n:=min n2 dl
     if sz2=sz∧o2+n*sz≤y.size∧o+n*sz≤x.size∧(y.win o2 (n*sz)).one=true then
      (x.putW o (y.win o2 (n*sz))).map fun z=>(.c (.val (.int .i64 n)),M.set b (.row true z))
     else none
    |_,_=>none
   |_=>none
  else none
 |_,_=>none
theorem Zo{P:Program}{M M':Ak}{t t' ty:TypeId}{d s v:AV}(h:WF P M t d s=some (v,M')){ι:Emb}{w:World}(hR:R ι M w){p q:Value}(hd:d.rel ι p)(hs:s.rel ι q):
  R3 P ι M w v M' (Builtin.copy_ #[t,t'] ty #[p,q]):=by
 unfold WF at h
 split at h
 ·rename_i el b o dl cap sz hu
  obtain ⟨pp,cap',rfl,h1,h2,h3⟩:=hd
  split at h
  ·rename_i hc
   obtain ⟨hsz,hsz0⟩:=hc
   have nothing:∀pq c,(Builtin.copy_ #[t,t'] ty #[.slice pp dl cap',.slice pq 0 c]).run P w= .ok (.int .i64 0) w:=by
    intro pq c
    have hf:∀k,(Builtin.firstCells k 0 (.slice pq 0 c)).run P w= .ok #[] w:=by
     intro k
     cases pq with
     |none=>exact run_firstCells_none w _ _ _ _
     |some a=>exact run_firstCells_some w _ 0 a 0 c [] (by simp) (fun j v h=>by simp at h)
    cases pp<;>simp [Builtin.copy_,run_underlying hu,Builtin.lenOf,CG hsz,hf,storeCells,goInt]
   split at h
   ·cases h
    obtain rfl:q= .slice none 0 0:=hs
    exact ⟨_,w,ι,nothing _ _,rfl,Step.refl hR (Nat.le_refl _)⟩
   ·cases h
    obtain ⟨pq,rfl⟩:=hs
    exact ⟨_,w,ι,nothing _ _,rfl,Step.refl hR (Nat.le_refl _)⟩
   ·rename_i b2 o2 n2 cap2 sz2
    split at h
    ·rename_i x own2 y hm hm2
     simp only at h
     split at h
     ·rename_i hc
      obtain ⟨rfl,hle2,hle,hone⟩:=hc
      obtain ⟨z,hz,he⟩:=Option.map_eq_some_iff.1 h
      cases he
      have hwin:(y.win o2 (min n2 dl*sz2)).size=min n2 dl*sz2:=by rw [Arr.win_size];omega
      obtain ⟨s1,s2⟩:=Arr.putW_spec hz (by rw [hwin];exact hle)
      have hss:Eo M sz2 (.c (.sl b2 o2 (min n2 dl) 0 sz2))=some (min n2 dl,Ft y o2 (min n2 dl*sz2)):=by simp [Eo,hm2,hle2]
      obtain ⟨pq,cq,rfl,g1,g2,g3⟩:=hs
      have hs':AV.rel ι (.c (.sl b2 o2 (min n2 dl) 0 sz2)) (.slice pq (min n2 dl) cq):=⟨pq,cq,rfl,Nat.zero_le _,by omega,g3⟩
      obtain ⟨pq',cq',l,heq,_,hsh⟩:=K2 hss hsz0 hR hs'
      cases heq
      have hf:=hsh.first P cq w rfl
      have hf':(Builtin.firstCells sz2 (min n2 dl) (.slice pq n2 cq)).run P w= .ok l.toArray w:=by
       have:(Builtin.firstCells sz2 (min n2 dl) (.slice pq n2 cq))=Builtin.firstCells sz2 (min n2 dl) (.slice pq (min n2 dl) cq):=by cases pq<;>rfl
       rw [this];exact hf
      have hl1:∀u∈l,u.oneCell'=true:=by
       intro u hu
       obtain ⟨j,hj,rfl⟩:=List.mem_iff_getElem.1 hu
       have hj':j<min n2 dl*sz2:=by rw [←hsh.len];exact hj
       obtain ⟨v',hv',hr⟩:=hsh.rel j (by rw [hsh.size];exact hj')
       rw [List.getElem?_eq_getElem hj] at hv'
       cases hv'
       rw [PQ hj' hle2] at hr
       have:=Arr.get_one hone (i:=j) (by rw [hwin];exact hj')
       rw [Arr.win_get' _ _ _ _ hj' O_] at this
       exact Cell.rel_one hr this
      have hcell:∀j,j<l.toArray.size→ ∃v,l.toArray[j]?=some v∧((y.win o2 (min n2 dl*sz2)).get j).rel ι v:=by
       intro j hj
       have hj':j<min n2 dl*sz2:=by rw [←hsh.len];simpa using hj
       obtain ⟨v',hv',hr⟩:=hsh.rel j (by rw [hsh.size];exact hj')
       refine ⟨v',by simpa using hv',?_⟩
       rw [PQ hj' hle2] at hr
       rw [Arr.win_get' _ _ _ _ hj' O_];exact hr
      have hn:Nat.min n2 dl=min n2 dl:=rfl
      rcases h3 with h3 | ⟨loc,hb,rfl,hfit⟩
      ·have hdl:dl=0:=by omega
       subst hdl
       obtain rfl:l=[]:=List.eq_nil_of_length_eq_zero (by rw [hsh.len];simp)
       refine ⟨.int .i64 (min n2 0:Nat),w,ι,?_,rfl,kw hR hm s1 (fun j hj=>by rw [s2 j hj,if_neg (by rw [hwin];simp)]) (Arr.putW_noMap0 hz) (Arr.putW_noMap hz)⟩
       have hf0:(Builtin.firstCells sz2 0 (.slice pq n2 cq)).run P w= .ok #[] w:=by simpa using hf'
       cases pp<;>simp [Builtin.copy_,run_underlying hu,Builtin.lenOf,CG hsz,hf0,storeCells,goInt]
      ·obtain ⟨cs,tt,fr,k1,k2,k3,k4⟩:=hR.cells hb hm (Arr.putW_noMap0 hz)
       obtain ⟨rfl,k5⟩:=k4 rfl
       have hll:l.length=min n2 dl*sz2:=hsh.len
       have hst:=run_storeCells_at P loc.c (loc.off+o) tt l 0 cs w k1 O_ hl1
       simp only [Nat.add_zero] at hst
       have hsize:(cs.toList.take (loc.off+o)++l++cs.toList.drop (loc.off+o+l.length)).toArray.size=cs.size:=by simp;omega
       have hrel:=V4 (g:=(y.win o2 (min n2 dl*sz2)).get) (vs:=l.toArray) k3 s1 (o:=o) (by simp;omega) (by
        intro j hj
        have:=s2 j hj
        rw [hwin] at this
        simp only [List.size_toArray,hll]
        exact this) hcell
       have hst2:=Qx (y:=z) hR hb hm k1 hsize O_ (by simpa using hrel) (Arr.putW_noMap hz)
       refine ⟨.int .i64 (min n2 dl:Nat),_,ι,?_,rfl,hst2⟩
       simp [Builtin.copy_,run_underlying hu,Builtin.lenOf,CG hsz,hn,hf',hst,goInt]
     ·cases h
    ·cases h
   ·cases h
  ·cases h
 ·cases h
def ME(s:ByteArray):AB 8:=s.data.toList.map (·.toBitVec)
def Mi(P:Program)(M:Ak)(s d:TypeId)(x:AV):Option (AV×Ak):=
 match P.underlying s,P.underlying d,x with
 |some .string,some (.slice e),.c (.val (.string b))=>
  match P.underlying e with
  |some (.int .u8)=>some (.c (.sl M.length 0 b.size b.size 1),M++[.row false (.a8 (ME b))])
  |_=>none
 |_,_,_=>none
theorem Tv{P:Program}{M M':Ak}{s d:TypeId}{x v:AV}(h:Mi P M s d x=some (v,M')){ι:Emb}{w:World}(hR:R ι M w){p:Value}(hx:x.rel ι p):R3 P ι M w v M' (convert s d p):=by
 unfold Mi at h
 split at h
 ·rename_i e b hs hd
  obtain rfl:p= .string b:=hx
  split at h
  ·rename_i he
   cases h
   obtain ⟨cap,hcap,hrun⟩:∃cap,b.size≤cap∧(convert s d (.string b)).run P w= .ok (.slice (some ⟨w.heap.size,0,none⟩) b.size cap) ((w.drew.alloc (.cells (b.data.map (fun b=>Value.int .u8 b.toNat)++Array.replicate (cap-b.size) (.int .u8 0)) e)).freeze ⟨w.heap.size,cap,none⟩ 1):=by
    refine ⟨(Question.appendCap b.size 0 e).cut (w.tape w.drawn (.appendCap b.size 0 e)),by simp [Question.cut],?_⟩
    have hc:b.size≤(Question.appendCap b.size 0 e).cut (w.tape w.drawn (.appendCap b.size 0 e)):=by simp [Question.cut]
    have hsh:(w.drew.alloc (.cells (b.data.map (fun b=>Value.int .u8 b.toNat)++Array.replicate ((Question.appendCap b.size 0 e).cut (w.tape w.drawn (.appendCap b.size 0 e))-b.size) (.int .u8 0)) e)).shape? w.heap.size=some (e,(Question.appendCap b.size 0 e).cut (w.tape w.drawn (.appendCap b.size 0 e))):=by
     have e1:b.data.size=b.size:=rfl
     simp only [World.shape?]
     rw [Gg,if_pos (show w.heap.size=w.drew.heap.size from rfl)]
     simp only [Array.size_append,Array.size_map,Array.size_replicate,e1]
     congr 2
     omega
    simp [convert,run_underlying hs,run_underlying hd,run_underlying he,Conv.stringToBytes,newRow,markStringish,Question.forced]
    rw [hsh]
    simp
   have hheap:∃fr,((w.drew.alloc (.cells (b.data.map (fun b=>Value.int .u8 b.toNat)++Array.replicate (cap-b.size) (.int .u8 0)) e)).freeze ⟨w.heap.size,cap,none⟩ 1).heap=w.heap.push (.cells (b.data.map (fun b=>Value.int .u8 b.toNat)++Array.replicate (cap-b.size) (.int .u8 0)) e fr):=by
    refine ⟨(cap,cap+1),?_⟩
    unfold World.freeze
    rw [if_neg O_]
    apply Array.ext_getElem?
    intro i
    simp only [Array.getElem?_modify]
    rw [Gg,Array.getElem?_push]
    show (if w.heap.size=i then _ else _)=_
    by_cases hi:w.heap.size=i
    ·subst hi
     rw [if_pos rfl,if_pos rfl]
     show Option.map _ (if w.drew.heap.size=w.drew.heap.size then _ else _)=_
     rw [if_pos rfl]
     rfl
    ·rw [if_neg hi,if_neg (fun h=>hi h.symm)]
     show w.heap[i]?=_
     rw [if_neg (fun h=>hi h.symm)]
   obtain ⟨fr,hheap⟩:=hheap
   have hfz:∀(W:World) (a:Addr) (n:Nat),(W.freeze a n).os=W.os∧(W.freeze a n).tape=W.tape∧(W.freeze a n).output=W.output:=by
    intro W a n;unfold World.freeze;split<;>exact ⟨rfl,rfl,rfl⟩
   have e1:b.data.size=b.size:=rfl
   have hst:=nV (x:= .a8 (ME b)) hR hheap (hfz _ _ _).1 (hfz _ _ _).2.1 (hfz _ _ _).2.2 (by simp [Arr.size,ME,e1]) (by
    intro i hi
    have hi':i<b.data.size:=by simpa [Arr.size,ME] using hi
    refine ⟨.int .u8 b.data[i].toNat,?_,?_⟩
    ·rw [Nat.zero_add,Array.getElem?_append_left (by simpa using hi'),Array.getElem?_map,Array.getElem?_eq_getElem hi']
     rfl
    ·have h7:(ME b).getD i 0=b.data[i].toBitVec:=by
      rw [List.getD_eq_getElem?_getD,ME,List.getElem?_map,Array.getElem?_toList,Array.getElem?_eq_getElem hi'];rfl
     simp only [Arr.get,Cell.rel,nth]
     rw [h7]
     rfl) rfl
   refine ⟨_,_,_,hrun,⟨_,cap,rfl,hcap,hcap,.inr ⟨_,Emb.upd_eq _ _ _,rfl,?_⟩⟩,hst⟩
   simp [e1];omega
  ·cases h
 ·cases h
def Zx(P:Program)(M:Ak)(s d:TypeId)(x:AV):Option (AV×Ak):=
 match P.underlying s,P.underlying d,x with
 |some (.slice _),some (.slice e),.c (.sl b o len cap sz)=>
  match P.underlying e,M[b]? with
  |some (.int .u8),some (.row true y)=>if s=d∧0<len∧y.isMap=false then some (.c (.sl M.length o len cap sz),M.set b .dead++[.row false y]) else none
  |_,_=>none
 |_,_,_=>none
theorem lU{ι:Emb}{M:Ak}{w w':World}(hR:R ι M w){b:Nat}{l:Loc}{y:Arr}(hb:ι b=some l)(hm:M[b]?=some (.row true y))(ho:w'.os=w.os)(ht:w'.tape=w.tape)(hu:w'.output=w.output)(hsz:w'.heap.size=w.heap.size)
  (hoth:∀c,c≠l.c→w'.heap[c]?=w.heap[c]?) (hat:∀cs t fr,w.heap[l.c]?=some (.cells cs t fr)→ ∃fr',w'.heap[l.c]?=some (.cells cs t fr')) (hmp:y.isMap=false):
  Step M.length ι M w (ι.upd M.length l) (M.set b .dead++[.row false y]) w':=by
 have hown:C5 ι M l.c:=⟨b,l,y,hb,hm,rfl⟩
 have hle:=hR.upd_le l
 have hlen:(M.set b Row.dead).length=M.length:=by simp
 have pick:∀ {b1:Nat} {own:Bool} {z:Arr},(M.set b .dead++[.row false y])[b1]?=some (.row own z)→(b1≠b∧b1<M.length∧M[b1]?=some (.row own z))∨(b1=M.length∧own=false∧z=y):=by
  intro b1 own z h
  rcases Ch h with ⟨hlt,h⟩ | ⟨rfl,e⟩
  ·by_cases e1:b=b1
   ·subst e1
    rw [List.getElem?_set_self O_] at h
    cases h
   ·rw [List.getElem?_set_ne e1] at h
    exact .inl ⟨fun e=>e1 e.symm,by omega,h⟩
  ·cases e;exact .inr ⟨hlen,rfl,rfl⟩
 have apart:∀ {b1:Nat} {l1:Loc} {own:Bool} {z:Arr},b1≠b→ι b1=some l1→M[b1]?=some (.row own z)→l1.c≠l.c:=fun hne h1 k1=>hR.inj _ b _ l _ true _ y hne h1 hb k1 hm (.inr rfl)
 refine Step.make hR (fun b1 hb1=>?_) (fun b1 l1 own z hb1 hm1=>?_) (fun b1 b2 l1 l2 o1 o2 z1 z2 hne h1 h2 k1 k2 ho=>?_) ⟨ho,ht,hu,Nat.le_of_eq hsz.symm,fun c _ hn=>hoth c (fun e=>hn (by rw [e];exact hown)),fun c hc=>?_⟩ rfl (fun b1 hb1=>Emb.upd_ne O_) (by simp) (fun b1 z hb1 hm1=>?_) (fun b1 own z hb1 hm1=>?_) (fun b1 l1 own z hb1 h1 h2=>?_)
 ·simp at hb1
  rw [Emb.upd_ne O_];exact hR.dom b1 O_
 ·rcases pick hm1 with ⟨hne,hlt,hm1⟩ | ⟨rfl,rfl,rfl⟩
  ·rw [Emb.upd_ne O_] at hb1
   exact (hR.rows b1 l1 own z hb1 hm1).heap (hoth _ (apart hne hb1 hm1)) hle
  ·rw [Emb.upd_eq] at hb1;cases hb1
   obtain ⟨cs1,t1,fr,k1,k2,k3,_⟩:=hR.cells hb hm hmp
   obtain ⟨fr',hat⟩:=hat cs1 t1 fr k1
   exact .of hmp ⟨cs1,t1,fr',hat,k2,k3.mono' hle,fun h=>by cases h⟩
 ·rcases pick k1 with ⟨e1,g1,m1⟩ | ⟨e1,g1,_⟩<;>rcases pick k2 with ⟨e2,g2,m2⟩ | ⟨e2,g2,_⟩
  ·rw [Emb.upd_ne O_] at h1 h2
   exact hR.inj b1 b2 l1 l2 o1 o2 z1 z2 hne h1 h2 m1 m2 ho
  ·rw [Emb.upd_ne O_] at h1
   rw [e2,Emb.upd_eq] at h2;cases h2
   exact apart e1 h1 m1
  ·rw [Emb.upd_ne O_] at h2
   rw [e1,Emb.upd_eq] at h1;cases h1
   exact fun e=>apart e2 h2 m2 e.symm
  ·exact absurd (e1.trans e2.symm) hne
 ·obtain ⟨b1,l1,z,h1,k1,rfl⟩:=hc
  rcases pick k1 with ⟨e1,g1,k1⟩ | ⟨_,g,_⟩
  ·rw [Emb.upd_ne O_] at h1
   exact .inr ⟨b1,l1,z,h1,k1,rfl⟩
  ·cases g
 ·rw [List.getElem?_append_left (by simpa using hb1),List.getElem?_set_ne (fun e=>by subst e;rw [hm] at hm1;cases hm1)];exact hm1
 ·rcases pick hm1 with ⟨_,_,hm1⟩ | ⟨rfl,_,_⟩
  ·exact ⟨z,hm1⟩
  ·omega
 ·rcases pick h2 with ⟨_,hlt,_⟩ | ⟨rfl,_,_⟩
  ·omega
  ·rw [Emb.upd_eq] at h1
   cases h1
   exact .inr (.inl hown)
theorem Yz{P:Program}{M M':Ak}{s d:TypeId}{x v:AV}(h:Zx P M s d x=some (v,M')){ι:Emb}{w:World}(hR:R ι M w){p:Value}(hx:x.rel ι p):R3 P ι M w v M' (convert s d p):=by
 unfold Zx at h
 split at h
 ·rename_i e0 e b o len cap sz hs hd
  split at h
  ·rename_i y he hm
   split at h
   ·rename_i hc
    obtain ⟨rfl,hlen,hym⟩:=hc
    rw [hd] at hs
    cases hs
    cases h
    obtain ⟨q,cap',rfl,h1,h2,h3⟩:=hx
    rcases h3 with h3 | ⟨l,hl,rfl,h4⟩
    ·omega
    ·obtain ⟨cs,t,fr,k1,k2,k3,k4⟩:=hR.cells hl hm hym
     have hsh:w.shape? l.c=some (t,cs.size):=by simp only [World.shape?,k1]
     have hrun:(convert s s (.slice (some ⟨l.c,l.off+o,none⟩) len cap')).run P w= .ok (.slice (some ⟨l.c,l.off+o,none⟩) len cap') (w.freeze ⟨l.c,cs.size,none⟩ 1):=by
      simp [convert,run_underlying hd,run_underlying he,markStringish,hsh]
     have hw:(w.freeze ⟨l.c,cs.size,none⟩ 1).os=w.os∧(w.freeze ⟨l.c,cs.size,none⟩ 1).tape=w.tape∧(w.freeze ⟨l.c,cs.size,none⟩ 1).output=w.output∧(w.freeze ⟨l.c,cs.size,none⟩ 1).heap.size=w.heap.size:=by
      unfold World.freeze
      rw [if_neg O_]
      exact ⟨rfl,rfl,rfl,by simp⟩
     refine ⟨_,_,_,hrun,⟨_,cap',rfl,h1,h2,.inr ⟨l,Emb.upd_eq _ _ _,rfl,h4⟩⟩,lU hR hl hm hw.1 hw.2.1 hw.2.2.1 hw.2.2.2 (fun c hc=>?_) (fun cs' t' fr' hc=>?_) hym⟩
     ·unfold World.freeze
      rw [if_neg O_]
      simp only [Array.getElem?_modify]
      rw [if_neg (fun h=>hc h.symm)]
     ·unfold World.freeze
      rw [if_neg O_]
      simp only [Array.getElem?_modify,if_true,hc]
      exact ⟨_,rfl⟩
   ·cases h
  ·cases h
 ·cases h
def Uw(P:Program)(M:Ak)(s d:TypeId)(x:AV):Option (AV×Ak):=match Mi P M s d x with
 |some r=>some r
 |none=>Zx P M s d x
def bD:List AV→Option AV
 |[.c (.val (.int k x)),.c (.val (.int k' y))]=>if k=k' then some (.c (.val (.int k (if y<x then y else x)))) else none
 |_=>none
def pY:List AV→Option AV
 |[.c (.val (.int k x)),.c (.val (.int k' y))]=>if k=k' then some (.c (.val (.int k (if x<y then y else x)))) else none
 |_=>none
def Se(P:Program)(t:TypeId):AV→Option AV
 |.c (.sl _ _ n _ _)=>if DV P t then some (.c (.val (.int .i64 n))) else none
 |.c .nsl=>if DV P t then some (.c (.val (.int .i64 0))) else none
 |.c .esl=>if DV P t then some (.c (.val (.int .i64 0))) else none
 |.c (.bs l)=>if DV P t then some (.c (.val (.int .i64 l.length))) else none
 |.c (.is l)=>if DV P t then some (.c (.val (.int .i64 l.length))) else none
 |_=>match P.underlying t with
  |some (.array n _)=>some (.c (.val (.int .i64 n)))
  |_=>none
def Ut(P:Program)(t:TypeId)(x:AV)(f:Nat):Option AV:=
 match P.underlying t,x with
 |some (.struct fs),.agg y=>match fs[f]? with
  |some fd=>FK P fd.type y fd.offset
  |none=>none
 |_,_=>none
def BS(P:Program)(t:TypeId)(x:AV)(f:Nat):Option AV:=
 match P.underlying t,x with
 |some (.struct fs),.c (.ptr b o)=>match fs[f]? with
  |some fd=>match De P fd.type with
   |some n=>if n=0 then none else some (.c (.ptr b (o+fd.offset)))
   |none=>none
  |none=>none
 |_,_=>none
def YQ(P:Program)(t:TypeId)(x i:AV):Option AV:=
 match P.underlying t,x,Fc i with
 |some (.array n el),.agg y,some i=>match De P el with
  |some sz=>if 0≤i∧i<n then FK P el y (i.toNat*sz) else none
  |none=>none
 |_,_,_=>none
def L9(P:Program)(t:TypeId):AV→Option AV
 |.c (.sl b o len _ _)=>match P.underlying t with
  |some (.array n _)=>if n≤len∧0<n then some (.c (.ptr b o)) else none
  |_=>none
 |.c (.bs l)=>match P.underlying t with
  |some (.array n _)=>if n≤l.length∧0<n then some (.c (.qb l 0)) else none
  |_=>none
 |_=>none
def AL(P:Program)(e:Operand→AV)(M:Ak):Op→Option AV
 |.move x=>some (e x)
 |.assign x=>some (e x)
 |.pick c a b=>match e c with
  |.c (.val (.bool t))=>some (if t then e a else e b)
  |_=>none
 |.load t a=>match e a with
  |.c (.ptr b o)=>match M[b]? with
   |some (.row _ x)=>FK P t x o
   |_=>none
  |.c (.qb l o)=>FK P t (.a8 l) o
  |.c (.qi l o)=>FK P t (.ai l) o
  |_=>none
 |.nilCheck x=>match e x with
  |.c (.ptr b o)=>some (.c (.ptr b o))
  |_=>none
 |.binOp op t x y _=>No P op t x y (e x) (e y)
 |.unOp op _ x=>match e x with
  |.c (.val v)=>(Wx (Op.unary op v)).map fun u=> .c (.val u)
  |_=>none
 |.convert s d x=>ap P s d (e x)
 |.sliceToArrayPointer t x=>L9 P t (e x)
 |.slice t x lo hi none=>HP P M t (e x) (lo.map e) (hi.map e)
 |.fieldAddr t x f=>BS P t (e x) f
 |.field t x f=>Ut P t (e x) f
 |.indexAddr t x i=>Hb P t (e x) (e i)
 |.index t x i=>YQ P t (e x) (e i)
 |.extract x i=>match e x with
  |.tup l=>l[i]?
  |_=>none
 |.build t ps=>B0 P t (ps.toList.map fun p=>(p.1,e p.2))
 |.call c=>match c.callee,c.args.toList,c.argTypes.toList with
  |.builtin .len,[x],[t]=>Se P t (e x)
  |.builtin .min,[x,y],_=>bD [e x,e y]
  |.builtin .max,[x,y],_=>pY [e x,e y]
  |_,_,_=>none
 |_=>none
def CP(P:Program)(e:Operand→AV)(M:Ak):Op→Option (AV×Ak)
 |.alloc t=>Cp P M t
 |.box _ x=>iX M (e x)
 |.store t a x=>(Ic P M t (e a) (e x)).map fun M'=>(.c .any,M')
 |.convert s d x=>Uw P M s d (e x)
 |.makeSlice t l c=>F4 P M t (e l) (e c)
 |.buildSlice t n ps=>Cq P M t n (ps.toList.map fun p=>(p.1,e p.2))
 |.call c=>match c.callee,c.args.toList,c.argTypes.toList with
  |.builtin .append,[s,x],[t,t']=>BM P M t t' (e s) (e x)
  |.builtin .copy,[d,s],[t,_]=>WF P M t (e d) (e s)
  |_,_,_=>none
 |_=>none
def xi(P:Program)(ι:Emb)(M:Ak)(w:World)(v:AV)(M':Ak)(s:Sem Next):Prop:=
 ∃u w' ι',(s.run P w= .ok (.value u) w'∨(s.run P w= .ok .skip w'∧u=undef))∧v.rel ι' u∧Step M.length ι M w ι' M' w'
theorem JX{ι:Emb}{e:Operand→AV}{ρ:Operand→Value}:∀(l:List (Nat×Operand)),(∀p∈l,(e p.2).rel ι (ρ p.2))→MH ι (l.map fun p=>(p.1,e p.2)) (l.map fun p=>(p.1,ρ p.2))
 |[],_=>trivial
 |p::l,h=>⟨rfl,h p List.mem_cons_self,JX l fun q hq=>h q (List.mem_cons_of_mem _ hq)⟩
theorem mb(P:Program)(e:Operand→AV)(ρ:Operand→Value)(dst:Option Tmp)(type:TypeId)(pos:String)(after:Array Edge)(guard:Option (Nat×Bool))(x:Operand)(t:TypeId)(v:AV)(h:Se P t (e x)=some v)(ι:Emb)(w:World)
  (hρ:∀y∈(Op.call { callee:= .builtin .len,args:=[x].toArray,argTypes:=[t].toArray }).operands,(e y).rel ι (ρ y)):∃u,(execOp ρ ⟨dst,.call { callee:= .builtin .len,args:=[x].toArray,argTypes:=[t].toArray },type,pos,after,guard⟩).run P w= .ok (.value u) w∧v.rel ι u:=by
 have hxr:=hρ x (by simp [Op.operands,Call.operands])
 have fin:∀n:Int,(Builtin.len_ #[t] type #[ρ x]).run P w= .ok (goInt n) w→v= .c (.val (.int .i64 n))→ ∃u,(execOp ρ ⟨dst,.call { callee:= .builtin .len,args:= #[x],argTypes:= #[t] },type,pos,after,guard⟩).run P w= .ok (.value u) w∧v.rel ι u:=by
  rintro n hn rfl
  exact ⟨goInt n,by simp [execOp,resolve,invoke,builtin,hn],rfl⟩
 unfold Se at h
 split at h
 ·rename_i b o n cap sz hx
  rw [hx] at hxr
  obtain ⟨p,cap',hp,_⟩:=hxr
  split at h
  ·rename_i ht
   cases h
   unfold DV at ht
   split at ht
   ·rename_i el hu
    exact fin n (by simp [Builtin.len_,run_underlying hu,hp]) rfl
   ·cases ht
  ·cases h
 ·rename_i hx
  rw [hx] at hxr
  have hp:ρ x= .slice none 0 0:=hxr
  split at h
  ·rename_i ht
   cases h
   unfold DV at ht
   split at ht
   ·rename_i el hu
    exact fin 0 (by simp [Builtin.len_,run_underlying hu,hp]) rfl
   ·cases ht
  ·cases h
 ·rename_i hx
  rw [hx] at hxr
  obtain ⟨p,hp⟩:=hxr
  split at h
  ·rename_i ht
   cases h
   unfold DV at ht
   split at ht
   ·rename_i el hu
    exact fin 0 (by simp [Builtin.len_,run_underlying hu,hp]) rfl
   ·cases ht
  ·cases h
 ·rename_i l hx
  rw [hx] at hxr
  obtain ⟨p,cap,hp,_⟩:=hxr
  split at h
  ·rename_i ht
   cases h
   unfold DV at ht
   split at ht
   ·rename_i el hu
    exact fin l.length (by simp [Builtin.len_,run_underlying hu,hp]) rfl
   ·cases ht
  ·cases h
 ·rename_i l hx
  rw [hx] at hxr
  obtain ⟨p,cap,hp,_⟩:=hxr
  split at h
  ·rename_i ht
   cases h
   unfold DV at ht
   split at ht
   ·rename_i el hu
    exact fin l.length (by simp [Builtin.len_,run_underlying hu,hp]) rfl
   ·cases ht
  ·cases h
 ·split at h
  ·rename_i n el hu
   cases h
   exact fin n (by simp [Builtin.len_,run_underlying hu]) rfl
  ·cases h
theorem qe(P:Program)(e:Operand→AV)(ρ:Operand→Value)(dst:Option Tmp)(type:TypeId)(pos:String)(after:Array Edge)(guard:Option (Nat×Bool))(x y:Operand)(ts:Array TypeId)(v:AV)(h:bD [e x,e y]=some v)(ι:Emb)(w:World)
  (hρ:∀z∈(Op.call { callee:= .builtin .min,args:=[x,y].toArray,argTypes:=ts }).operands,(e z).rel ι (ρ z)):∃u,(execOp ρ ⟨dst,.call { callee:= .builtin .min,args:=[x,y].toArray,argTypes:=ts },type,pos,after,guard⟩).run P w= .ok (.value u) w∧v.rel ι u:=by
 unfold bD at h
 split at h
 ·rename_i k a k' b heq
  split at h
  ·rename_i hk
   cases h
   simp only [List.cons.injEq,and_true] at heq
   have h1:=hρ x (by simp [Op.operands,Call.operands])
   have h2:=hρ y (by simp [Op.operands,Call.operands])
   rw [heq.1] at h1
   rw [heq.2] at h2
   have e1:ρ x= .int k a:=h1
   have e2:ρ y= .int k' b:=h2
   exact ⟨_,by simp [execOp,resolve,invoke,builtin,Builtin.min_,Builtin.min2,e1,e2],rfl⟩
  ·cases h
 ·cases h
theorem oR(P:Program)(e:Operand→AV)(ρ:Operand→Value)(dst:Option Tmp)(type:TypeId)(pos:String)(after:Array Edge)(guard:Option (Nat×Bool))(x y:Operand)(ts:Array TypeId)(v:AV)(h:pY [e x,e y]=some v)(ι:Emb)(w:World)
  (hρ:∀z∈(Op.call { callee:= .builtin .max,args:=[x,y].toArray,argTypes:=ts }).operands,(e z).rel ι (ρ z)):∃u,(execOp ρ ⟨dst,.call { callee:= .builtin .max,args:=[x,y].toArray,argTypes:=ts },type,pos,after,guard⟩).run P w= .ok (.value u) w∧v.rel ι u:=by
 unfold pY at h
 split at h
 ·rename_i k a k' b heq
  split at h
  ·rename_i hk
   cases h
   simp only [List.cons.injEq,and_true] at heq
   have h1:=hρ x (by simp [Op.operands,Call.operands])
   have h2:=hρ y (by simp [Op.operands,Call.operands])
   rw [heq.1] at h1
   rw [heq.2] at h2
   have e1:ρ x= .int k a:=h1
   have e2:ρ y= .int k' b:=h2
   exact ⟨_,by simp [execOp,resolve,invoke,builtin,Builtin.max_,Builtin.max2,e1,e2],rfl⟩
  ·cases h
 ·cases h
theorem OG{P:Program}{e:Operand→AV}{ρ:Operand→Value}{M:Ak}{o:Oper}{v:AV}(h:AL P e M o.op=some v){ι:Emb}{w:World}(hR:R ι M w)(hρ:∀x∈o.op.operands,(e x).rel ι (ρ x)):
  ∃u,(execOp ρ o).run P w= .ok (.value u) w∧v.rel ι u:=by
 obtain ⟨dst,op,type,pos,after,guard⟩:=o
 simp only at h hρ ⊢
 have val:∀ {s:Sem Value} {u:Value},s.run P w= .ok u w→(do pure (.value (←s)):Sem Next).run P w= .ok (.value u) w:=by
  intro s u hs;simp [hs]
 unfold AL at h
 split at h
 ·rename_i x;cases h;exact ⟨_,rfl,hρ x (by simp [Op.operands])⟩
 ·rename_i x;cases h;exact ⟨_,rfl,hρ x (by simp [Op.operands])⟩
 ·rename_i c a b
  split at h
  ·rename_i t hc
   cases h
   have:=hρ c (by simp [Op.operands])
   rw [hc] at this
   have hcv:ρ c= .bool t:=this
   refine ⟨if t then ρ a else ρ b,?_,?_⟩
   ·simp [execOp,hcv,asBool]
   ·cases t
    ·exact hρ b (by simp [Op.operands])
    ·exact hρ a (by simp [Op.operands])
  ·cases h
 ·rename_i t a
  split at h
  ·rename_i b o ha
   have har:=hρ a (by simp [Op.operands])
   rw [ha] at har
   obtain ⟨l,hb,hp⟩:=har
   split at h
   ·rename_i own x hm
    obtain ⟨cs,t',fr,k1,k2,k3,k4⟩:=hR.cells hb hm (UR h)
    obtain ⟨u,hu,hv⟩:=JW h k1 k3
    refine ⟨u,?_,AV.rel_of0 hv⟩
    refine val ?_;rw [hp]
    simp only [Instr.loadAt,Instr.sureAddr,Sem.run_bind,Sem.run_pure,Result.andThen_ok,hu]
   ·cases h
  ·rename_i l o ha
   have har:=hρ a (by simp [Op.operands])
   rw [ha] at har
   obtain ⟨c,o',hp,hr⟩:=har
   have hpos:0<l.length:=Nat.lt_of_lt_of_le (Nat.pos_of_ne_zero fun e=>by
    have:=YL h
    simp only [Arr.size] at this
    omega) (Nat.le_refl _)
   obtain ⟨⟨cs,t',fr,e1,e2⟩,_⟩:=hR.txt _ _ _ (hr 0 hpos)
   obtain ⟨u,hu,hv⟩:=JW h e1 (off:=o') (ι:=ι) (fun i hi=>by
    obtain ⟨⟨cs',t'',fr',f1,f2⟩,_⟩:=hR.txt _ _ _ (hr i hi)
    rw [e1] at f1;cases f1
    exact ⟨_,f2,rfl⟩)
   refine ⟨u,?_,AV.rel_of0 hv⟩
   refine val ?_;rw [hp]
   simp only [Instr.loadAt,Instr.sureAddr,Sem.run_bind,Sem.run_pure,Result.andThen_ok,hu]
  ·rename_i l o ha
   have har:=hρ a (by simp [Op.operands])
   rw [ha] at har
   obtain ⟨c,o',hp,hr⟩:=har
   have hpos:0<l.length:=Nat.lt_of_lt_of_le (Nat.pos_of_ne_zero fun e=>by
    have:=YL h
    simp only [Arr.size] at this
    omega) (Nat.le_refl _)
   obtain ⟨⟨cs,t',fr,e1,e2⟩,_⟩:=hR.txt _ _ _ (hr 0 hpos)
   obtain ⟨u,hu,hv⟩:=JW h e1 (off:=o') (ι:=ι) (fun i hi=>by
    obtain ⟨⟨cs',t'',fr',f1,f2⟩,_⟩:=hR.txt _ _ _ (hr i hi)
    rw [e1] at f1;cases f1
    exact ⟨_,f2,rfl⟩)
   refine ⟨u,?_,AV.rel_of0 hv⟩
   refine val ?_;rw [hp]
   simp only [Instr.loadAt,Instr.sureAddr,Sem.run_bind,Sem.run_pure,Result.andThen_ok,hu]
  ·cases h
 ·rename_i x
  split at h
  ·rename_i b o hx
   cases h
   have hxr:=hρ x (by simp [Op.operands])
   rw [hx] at hxr
   obtain ⟨l,hb,hp⟩:=hxr
   exact ⟨_,by simp [execOp,hp],⟨l,hb,rfl⟩⟩
  ·cases h
 ·rename_i op t x y yt
  obtain ⟨u,hu,hv⟩:=az h (hρ x (by simp [Op.operands])) (hρ y (by simp [Op.operands])) w
  exact ⟨u,val hu,hv⟩
 ·rename_i op t x
  split at h
  ·rename_i y hx
   obtain ⟨u,hu,rfl⟩:=Option.map_eq_some_iff.1 h
   have hxr:=hρ x (by simp [Op.operands])
   rw [hx] at hxr
   have hxv:ρ x=y:=hxr
   refine ⟨u,val ?_,rfl⟩
   rw [hxv];exact WU hu P w
  ·cases h
 ·rename_i s d x
  unfold ap at h
  split at h
  ·rename_i k n hx
   have hxr:=hρ x (by simp [Op.operands])
   rw [hx] at hxr
   have hxv:ρ x= .int k n:=hxr
   split at h
   ·rename_i ds k' hs hd
    cases h
    refine ⟨_,val ?_,rfl⟩
    rw [hxv]
    exact Kf (by rw [hs];rfl) hd k n
   ·cases h
  ·cases h
 ·rename_i t x
  unfold L9 at h
  split at h
  ·rename_i b o len cap sz hx
   have hxr:=hρ x (by simp [Op.operands])
   rw [hx] at hxr
   obtain ⟨p,cap',hp,h1,h2,h3⟩:=hxr
   split at h
   ·rename_i n el hu
    split at h
    ·rename_i hc
     cases h
     rcases h3 with h3 | ⟨l,hb,rfl,_⟩
     ·omega
     ·refine ⟨_,val ?_,⟨l,hb,rfl⟩⟩
      rw [hp]
      have:¬len<n:=by omega
      simp [Instr.arrayAt,run_underlying hu,this]
    ·cases h
   ·cases h
  ·rename_i l hx
   have hxr:=hρ x (by simp [Op.operands])
   rw [hx] at hxr
   obtain ⟨p,cap',hp,h1,h3⟩:=hxr
   split at h
   ·rename_i n el hu
    split at h
    ·rename_i hc
     cases h
     rcases h3 with h3 | ⟨c,o,rfl,hb,hr⟩
     ·omega
     ·refine ⟨_,val ?_,⟨c,o,rfl,hr⟩⟩
      rw [hp]
      have:¬l.length<n:=by omega
      simp [Instr.arrayAt,run_underlying hu,this]
    ·cases h
   ·cases h
  ·cases h
 ·rename_i t x lo hi
  have og:∀a:Option Operand,(∀y∈a.toList,(e y).rel ι (ρ y))→nm ι (a.map e) (a.map ρ):=by
   intro a ha
   cases a with
   |none=>trivial
   |some y=>exact ha y (by simp)
  obtain ⟨u,hu,hv⟩:=XB h hR (hρ x (by simp [Op.operands])) (og lo fun y hy=>hρ y (by simp [Op.operands] at hy ⊢;simp [hy])) (og hi fun y hy=>hρ y (by simp [Op.operands] at hy ⊢;simp [hy]))
  exact ⟨u,val hu,hv⟩
 ·rename_i t x f
  unfold BS at h
  split at h
  ·rename_i fs b o hu hx
   have hxr:=hρ x (by simp [Op.operands])
   rw [hx] at hxr
   obtain ⟨l,hb,hp⟩:=hxr
   split at h
   ·rename_i fd hf
    split at h
    ·rename_i n hn
     split at h
     ·cases h
     ·rename_i h0
      cases h
      refine ⟨_,val ?_,⟨l,hb,rfl⟩⟩
      rw [hp]
      simp [Instr.fieldAt,run_underlying hu,hf,Instr.sureAddr,fieldPlace,CG hn,h0,Fk,Nat.add_assoc]
    ·cases h
   ·cases h
  ·cases h
 ·rename_i t x f
  unfold Ut at h
  split at h
  ·rename_i fs y hu hx
   have hxr:=hρ x (by simp [Op.operands])
   rw [hx] at hxr
   obtain ⟨cs,hp,hs,hr⟩:=hxr
   split at h
   ·rename_i fd hf
    obtain ⟨u,hu2,hv⟩:=cT h hr w
    refine ⟨u,val ?_,AV.rel_of0 hv⟩
    rw [hp]
    simp [Instr.field,run_underlying hu,hf,asAgg,hu2]
   ·cases h
  ·cases h
 ·rename_i t x i
  obtain ⟨u,hu,hv⟩:=XI h w (hρ x (by simp [Op.operands])) (hρ i (by simp [Op.operands]))
  exact ⟨u,val hu,hv⟩
 ·rename_i t x i
  unfold YQ at h
  split at h
  ·rename_i n el y iv hu hx hi
   have hxr:=hρ x (by simp [Op.operands])
   rw [hx] at hxr
   obtain ⟨cs,hp,hs,hr⟩:=hxr
   obtain ⟨k,hk⟩:=G8 hi (hρ i (by simp [Op.operands]))
   split at h
   ·rename_i sz hsz
    split at h
    ·rename_i hc
     obtain ⟨u,hu2,hv⟩:=cT h hr w
     refine ⟨u,val ?_,AV.rel_of0 hv⟩
     rw [hp,hk]
     simp [Instr.index,asIntOf,run_underlying hu,hc,CG hsz,hu2]
    ·cases h
   ·cases h
  ·cases h
 ·rename_i x i
  split at h
  ·rename_i l hx
   have hxr:=hρ x (by simp [Op.operands])
   rw [hx] at hxr
   obtain ⟨vs,hp,hl,hr⟩:=hxr
   have hi:i<vs.size:=by have:=(List.getElem?_eq_some_iff.1 h).1;omega
   refine ⟨vs[i],val ?_,AV.rel_of0 (hr i v vs[i] h (by simp [hi]))⟩
   rw [hp]
   simp [Instr.extract,hi]
  ·cases h
 ·rename_i t ps
  have hpr:=JX (e:=e) (ρ:=ρ) ps.toList fun p hp=>hρ p.2 (by simp [Op.operands];exact ⟨p.1,by simpa using hp⟩)
  obtain ⟨u,hu,hv⟩:=XA (vs:=ps.map fun (i,x)=>(i,ρ x)) h (by simpa using hpr) w
  exact ⟨u,val hu,hv⟩
 ·rename_i c
  obtain ⟨callee,args,argTypes⟩:=c
  have lit:∀ {α:Type} {a:Array α} {l:List α},a.toList=l→a=l.toArray:=fun h=>by rw [←h]
  simp only at h
  split at h
  ·rename_i x t hargs htys
   obtain rfl:=lit hargs
   obtain rfl:=lit htys
   exact mb P e ρ dst type pos after guard x t v h ι w hρ
  ·rename_i x y hargs
   obtain rfl:=lit hargs
   exact qe P e ρ dst type pos after guard x y argTypes v h ι w hρ
  ·rename_i x y hargs
   obtain rfl:=lit hargs
   exact oR P e ρ dst type pos after guard x y argTypes v h ι w hρ
  ·cases h
 ·cases h
theorem Lr{P:Program}{ι:Emb}{M M':Ak}{w:World}{v:AV}{s:Sem Value}(h:R3 P ι M w v M' s):xi P ι M w v M' (do pure (.value (←s))):=by
 obtain ⟨u,w',ι',hr,hv,hs⟩:=h
 exact ⟨u,w',ι',.inl (by simp [hr]),hv,hs⟩
theorem UL{P:Program}{e:Operand→AV}{ρ:Operand→Value}{M M':Ak}{o:Oper}{v:AV}(h:CP P e M o.op=some (v,M')){ι:Emb}{w:World}(hR:R ι M w)(hρ:∀x∈o.op.operands,(e x).rel ι (ρ x)):
  xi P ι M w v M' (execOp ρ o):=by
 obtain ⟨dst,op,type,pos,after,guard⟩:=o
 simp only at h hρ ⊢
 unfold CP at h
 split at h
 ·exact Lr (W8 h hR)
 ·rename_i t x
  exact Lr (cF h hR (hρ x (by simp [Op.operands])))
 ·rename_i t a x
  obtain ⟨m,hm,he⟩:=Option.map_eq_some_iff.1 h
  cases he
  obtain ⟨w',hr,hs⟩:=XD hm hR (hρ a (by simp [Op.operands])) (hρ x (by simp [Op.operands]))
  exact ⟨undef,w',ι,.inr ⟨by simp [execOp,hr],rfl⟩,trivial,hs⟩
 ·rename_i s d x
  unfold Uw at h
  split at h
  ·rename_i r hr
   cases h
   exact Lr (Tv hr hR (hρ x (by simp [Op.operands])))
  ·exact Lr (Yz h hR (hρ x (by simp [Op.operands])))
 ·rename_i t l c
  exact Lr (Rj h hR (hρ l (by simp [Op.operands])) (hρ c (by simp [Op.operands])))
 ·rename_i t n ps
  have hpr:=JX (e:=e) (ρ:=ρ) ps.toList fun p hp=>hρ p.2 (by simp [Op.operands];exact ⟨p.1,by simpa using hp⟩)
  have e1:(ps.map fun (i,x)=>(i,ρ x)).toList=ps.toList.map fun p=>(p.1,ρ p.2):=Array.toList_map
  rw [←e1] at hpr
  have hb:=RS h hR hpr
  exact Lr hb
 ·rename_i c
  obtain ⟨callee,args,argTypes⟩:=c
  have lit:∀ {α:Type} {a:Array α} {l:List α},a.toList=l→a=l.toArray:=fun h=>by rw [←h]
  simp only at h
  split at h
  ·rename_i s x t t' hargs htys
   obtain rfl:=lit hargs
   obtain rfl:=lit htys
   obtain ⟨u,w',ι',hr,hv,hs⟩:=Wf (ty:=type) h hR (hρ s (by simp [Op.operands,Call.operands])) (hρ x (by simp [Op.operands,Call.operands]))
   exact ⟨u,w',ι',.inl (by simp [execOp,resolve,invoke,builtin,hr]),hv,hs⟩
  ·rename_i d s t t' hargs htys
   obtain rfl:=lit hargs
   obtain rfl:=lit htys
   obtain ⟨u,w',ι',hr,hv,hs⟩:=Zo (t':=t') (ty:=type) h hR (hρ d (by simp [Op.operands,Call.operands])) (hρ s (by simp [Op.operands,Call.operands]))
   exact ⟨u,w',ι',.inl (by simp [execOp,resolve,invoke,builtin,hr]),hv,hs⟩
  ·cases h
 ·cases h
def Cell.ren(ρ:Nat→Option Nat):Cell→Cell
 |.ptr b o=>match ρ b with | some b'=> .ptr b' o | none=> .any
 |.sl b o len cap sz=>match ρ b with | some b'=> .sl b' o len cap sz | none=> .any
 |.mp b=>match ρ b with | some b'=> .mp b' | none=> .any
 |.xs b n=>match ρ b with | some b'=> .xs b' n | none=> .any
 |x=>x
def Arr.ren(ρ:Nat→Option Nat):Arr→Arr
 |.ac l=> .ac (l.map (Cell.ren ρ))
 |x=>x
def AV.ren(ρ:Nat→Option Nat):AV→AV
 |.c x=> .c (x.ren ρ)
 |.agg x=> .agg (x.ren ρ)
 |.tup l=> .tup (l.map fun | .c x=> .c (x.ren ρ) | .agg x=> .agg (x.ren ρ) | x=>x)
def Row.ren(ρ:Nat→Option Nat):Row→Row
 |.row own x=> .row own (x.ren ρ)
 |.dead=> .dead
def Cell.refs:Cell→List Nat
 |.ptr b _=>[b]
 |.sl b _ _ _ _=>[b]
 |.mp b=>[b]
 |.xs b _=>[b]
 |_=>[]
def Arr.refs:Arr→List Nat
 |.ac l=>l.flatMap Cell.refs
 |_=>[]
def AV.refs0:AV→List Nat
 |.c x=>x.refs
 |.agg x=>x.refs
 |.tup _=>[]
def AV.refs:AV→List Nat
 |.tup l=>l.flatMap AV.refs0
 |x=>x.refs0
def Row.refs:Row→List Nat
 |.row _ x=>x.refs
 |.dead=>[]
structure Same(ρ:Nat→Option Nat)(ι ι':Emb):Prop where
 f:∀b b',ρ b=some b'→ι' b'=ι b
 tx:∀c o v,ι.tx c o v→ι'.tx c o v
theorem Cell.ren_rel{ρ:Nat→Option Nat}{ι ι':Emb}(h:Same ρ ι ι'){x:Cell}{v:Value}(hr:x.rel ι v):(x.ren ρ).rel ι' v:=by
 cases x with
 |ptr b o=>
  obtain ⟨l,hl,rfl⟩:=hr
  simp only [Cell.ren]
  split
  ·rename_i b' hb
   exact ⟨l,by rw [h.f b b' hb];exact hl,rfl⟩
  ·trivial
 |mp b=>
  obtain ⟨l,hl,rfl⟩:=hr
  simp only [Cell.ren]
  split
  ·rename_i b' hb
   exact ⟨l,by rw [h.f b b' hb];exact hl,rfl⟩
  ·trivial
 |xs b n=>
  obtain ⟨l,hl,rfl⟩:=hr
  simp only [Cell.ren]
  split
  ·rename_i b' hb
   exact ⟨l,by rw [h.f b b' hb];exact hl,rfl⟩
  ·trivial
 |lb x=>exact ⟨Co.mono h.tx hr.1,hr.2⟩
 |bs x=>exact Co.mono h.tx hr
 |is x=>exact Co.mono h.tx hr
 |qb x k=>obtain ⟨c,o,rfl,r⟩:=hr;exact ⟨c,o,rfl,fun i hi=>h.tx _ _ _ (r i hi)⟩
 |qi x k=>obtain ⟨c,o,rfl,r⟩:=hr;exact ⟨c,o,rfl,fun i hi=>h.tx _ _ _ (r i hi)⟩
 |sl b o len cap sz=>
  obtain ⟨p,c,rfl,h1,h2,h3⟩:=hr
  simp only [Cell.ren]
  split
  ·rename_i b' hb
   refine ⟨p,c,rfl,h1,h2,h3.imp id ?_⟩
   rintro ⟨l,hl,r⟩
   exact ⟨l,by rw [h.f b b' hb];exact hl,r⟩
  ·trivial
 |_=>exact hr
theorem C6.ren(ρ:Nat→Option Nat)(x:C6):x.cell.ren ρ=x.cell:=by cases x<;>rfl
theorem Arr.ren_size(ρ:Nat→Option Nat)(x:Arr):(x.ren ρ).size=x.size:=by cases x<;>simp [Arr.ren,Arr.size]
theorem Arr.ren_get(ρ:Nat→Option Nat)(x:Arr)(i:Nat):(x.ren ρ).get i=(x.get i).ren ρ:=by
 cases x with
 |ac l=>
  simp only [Arr.ren,Arr.get,Ti]
  simp only [List.getD_eq_getElem?_getD,List.getElem?_map]
  cases l[i]?<;>rfl
 |an l=>
  simp only [Arr.ren,Arr.get]
  generalize i%3=j
  match j with
  |0=>rfl
  |1=>rfl
  |j+2=>rfl
 |al l=>exact (C6.ren ρ (sT l i)).symm
 |_=>rfl
theorem Arr.ren_map(ρ:Nat→Option Nat)(x:Arr):(x.ren ρ).isMap=x.isMap:=by cases x<;>rfl
theorem IOq.ren{ρ:Nat→Option Nat}{ι ι':Emb}(h:Same ρ ι ι'){es:List (Value×C6)}{ents:Array MapEntry}(hr:IOq ι es ents):IOq ι' es ents:=by
 refine ⟨hr.1,fun i p hp=>?_⟩
 obtain ⟨e,h1,h2,h3⟩:=hr.2 i p hp
 have h4:=Cell.ren_rel h h3
 rw [C6.ren] at h4
 exact ⟨e,h1,h2,h4⟩
theorem Arr.ren_rel{ρ:Nat→Option Nat}{ι ι':Emb}(h:Same ρ ι ι'){x:Arr}{cs:Array Value}{off:Nat}(hr:x.relAt ι cs off):(x.ren ρ).relAt ι' cs off:=fun i hi=>by
 rw [Arr.ren_size] at hi
 obtain ⟨v,hv,hv'⟩:=hr i hi
 exact ⟨v,hv,by rw [Arr.ren_get];exact Cell.ren_rel h hv'⟩
theorem Holds.ren{ρ:Nat→Option Nat}{ι ι':Emb}(h:Same ρ ι ι'){w:World}{own:Bool}{x:Arr}{l:Loc}(hr:Holds ι w own x l):Holds ι' w own (x.ren ρ) l:=by
 by_cases hx:x.isMap=false
 ·obtain ⟨cs,t,fr,h1,h2,h3,h4⟩:=hr.cells hx
  exact .of (by rw [Arr.ren_map];exact hx) ⟨cs,t,fr,h1,by rw [Arr.ren_size];exact h2,Arr.ren_rel h h3,h4⟩
 ·cases x<;>(first | (exact absurd rfl hx) | skip)
  obtain ⟨es,c,h1,h2⟩:=hr
  exact ⟨es,c,h1,h2.ren h⟩
theorem AV.ren_rel{ρ:Nat→Option Nat}{ι ι':Emb}(h:Same ρ ι ι'){x:AV}{v:Value}(hr:x.rel ι v):(x.ren ρ).rel ι' v:=by
 cases x with
 |c x=>exact Cell.ren_rel h (x:=x) hr
 |agg x=>obtain ⟨cs,rfl,h1,h2⟩:=hr;exact ⟨cs,rfl,by rw [Arr.ren_size];exact h1,Arr.ren_rel h h2⟩
 |tup l=>
  obtain ⟨vs,rfl,h1,h2⟩:=hr
  refine ⟨vs,rfl,by simp [h1],fun i x u hx hu=>?_⟩
  rw [List.getElem?_map] at hx
  obtain ⟨y,hy,rfl⟩:=Option.map_eq_some_iff.1 hx
  have:=h2 i y u hy hu
  cases y with
  |c y=>exact Cell.ren_rel h (x:=y) this
  |agg y=>obtain ⟨cs,rfl,g1,g2⟩:=this;exact ⟨cs,rfl,by rw [Arr.ren_size];exact g1,Arr.ren_rel h g2⟩
  |tup _=>exact this
def Va(k:Nat):List Nat→List Nat→List Nat
 |seen,[]=>seen
 |seen,b::l=>if b<k∨b∈seen then Va k seen l else Va k (seen++[b]) l
def uM(k:Nat)(M:Ak):Nat→Nat→List Nat→List Nat
 |0,_,seen=>seen
 |f+1,i,seen=>match seen[i]? with
  |some b=>uM k M f (i+1) (Va k seen ((M.getD b .dead).refs))
  |none=>seen
def bg:Ak→List Nat
 |[]=>[]
 |r::l=>r.refs++bg l
def ny(k:Nat)(M:Ak)(roots:List Nat):List Nat:=uM k M M.length 0 (Va k (Va k [] (bg (M.take k))) roots)
def uC(b:Nat):List Nat→Nat→Option Nat
 |[],_=>none
 |x::l,i=>if x=b then some i else uC b l (i+1)
theorem Wu{b:Nat}:∀ {l:List Nat} {i j:Nat},uC b l i=some j→i≤j∧l[j-i]?=some b
 |[],_,_,h=>by cases h
 |x::l,i,j,h=>by
  unfold uC at h
  split at h
  ·rename_i e;cases h;subst e;simp
  ·obtain ⟨h1,h2⟩:=Wu h
   refine ⟨by omega,?_⟩
   rw [show j-i=(j-(i+1))+1 by omega,List.getElem?_cons_succ]
   exact h2
def Gx(k:Nat)(ids:List Nat)(b:Nat):Option Nat:=if b<k then some b else uC b ids k
def distinct:List Nat→Bool
 |[]=>true
 |x::l=> !l.contains x&&distinct l
theorem Sf:∀ {l:List Nat},distinct l=true→ ∀i j b:Nat,l[i]?=some b→l[j]?=some b→i=j
 |[],_,i,j,b,h,_=>by simp at h
 |x::l,hd,i,j,b,hi,hj=>by
  simp only [distinct,Bool.and_eq_true,Bool.not_eq_true'] at hd
  have hx:∀n:Nat,l[n]?≠some x:=fun n hn=>by
   have:=List.mem_of_getElem? hn
   have h2:=hd.1
   simp [this] at h2
  cases i with
  |zero=>
   cases j with
   |zero=>rfl
   |succ j=>simp at hi hj;subst hi;exact absurd hj (hx j)
  |succ i=>
   cases j with
   |zero=>simp at hi hj;subst hj;exact absurd hi (hx i)
   |succ j=>simp at hi hj;rw [Sf hd.2 i j b hi hj]
def To(k:Nat):Ak→Bool
 |[]=>true
 |.row own x::l=>(x.refs.all (· <k) || own)&&To k l
 |.dead::l=>To k l
def EI(k:Nat)(M:Ak)(ids:List Nat):Ak:=(M.take k).map (Row.ren (Gx k ids))++ids.map fun b=>(M.getD b .dead).ren (Gx k ids)
def UG(k:Nat)(M:Ak)(ids:List Nat):Bool:=decide (k≤M.length)&&distinct ids&&ids.all (fun b=>decide (k≤b)&&decide (b<M.length))&&To k (M.take k)
def canon(k:Nat)(roots:List AV)(M:Ak):Option (List AV×Ak×List Nat):=
 let ids:=ny k M (roots.flatMap AV.refs)
 if UG k M ids=true then some (roots.map (AV.ren (Gx k ids)),EI k M ids,ids) else none
def Ei(k:Nat)(ids:List Nat)(ι:Emb):Emb:=⟨fun j=>if j<k then ι j else match ids[j-k]? with | some b=>ι b | none=>none,ι.tx⟩
theorem MI(k:Nat)(ids:List Nat)(ι:Emb):Same (Gx k ids) ι (Ei k ids ι):=by
 refine ⟨fun b b' h=>?_,fun _ _ _ h=>h⟩
 unfold Gx at h
 split at h
 ·rename_i hb;cases h;exact if_pos hb
 ·obtain ⟨h1,h2⟩:=Wu h
  unfold Ei
  dsimp only
  rw [if_neg O_,h2]
theorem FH{k:Nat}{M:Ak}{ids:List Nat}(hk:k≤M.length){j:Nat}{own:Bool}{x:Arr}(h:(EI k M ids)[j]?=some (.row own x)):
  ∃b y,M[b]?=some (.row own y)∧x=y.ren (Gx k ids)∧((j<k∧b=j)∨(k≤j∧ids[j-k]?=some b)):=by
 unfold EI at h
 have inv:∀ {r:Row},r.ren (Gx k ids)= .row own x→ ∃y,r= .row own y∧x=y.ren (Gx k ids):=by
  intro r hr
  cases r with
  |dead=>cases hr
  |row o y=>cases hr;exact ⟨y,rfl,rfl⟩
 by_cases hj:j<k
 ·rw [List.getElem?_append_left (by simp;omega),List.getElem?_map,List.getElem?_take,if_pos hj] at h
  obtain ⟨r,hr,e⟩:=Option.map_eq_some_iff.1 h
  obtain ⟨y,rfl,hy⟩:=inv e
  exact ⟨j,y,hr,hy,.inl ⟨hj,rfl⟩⟩
 ·rw [List.getElem?_append_right (by simp;omega),List.getElem?_map] at h
  obtain ⟨b,hb,e⟩:=Option.map_eq_some_iff.1 h
  have hlen:((M.take k).map (Row.ren (Gx k ids))).length=k:=by simp;omega
  rw [hlen] at hb
  obtain ⟨y,hy,hy2⟩:=inv e
  refine ⟨b,y,?_,hy2,.inr ⟨by omega,hb⟩⟩
  rw [List.getD_eq_getElem?_getD] at hy
  cases hm:M[b]? with
  |none=>rw [hm] at hy;cases hy
  |some r=>rw [hm] at hy;simp at hy;rw [hy]
theorem Po{k:Nat}{ids:List Nat}{b:Nat}(h:b<k):Gx k ids b=some b:=if_pos h
theorem vu{k:Nat}{ids:List Nat}{x:Arr}(h:x.refs.all (· <k)=true):x.ren (Gx k ids)=x:=by
 cases x with
 |ac l=>
  simp only [Arr.refs,List.all_eq_true,List.mem_flatMap,decide_eq_true_eq] at h
  simp only [Arr.ren]
  congr 1
  conv=>rhs;rw [←List.map_id l]
  apply List.map_congr_left
  intro c hc
  cases c with
  |ptr b o=>simp only [Cell.ren,Po (h b ⟨_,hc,by simp [Cell.refs]⟩),id]
  |sl b o n c z=>simp only [Cell.ren,Po (h b ⟨_,hc,by simp [Cell.refs]⟩),id]
  |mp b=>simp only [Cell.ren,Po (h b ⟨_,hc,by simp [Cell.refs]⟩),id]
  |xs b n=>simp only [Cell.ren,Po (h b ⟨_,hc,by simp [Cell.refs]⟩),id]
  |_=>rfl
 |_=>rfl
theorem UI{k:Nat}:∀ {M:Ak},To k M=true→ ∀(b:Nat) (x:Arr),M[b]?=some (.row false x)→x.refs.all (· <k)=true
 |[],_,b,x,h=>by simp at h
 |r::l,hr,b,x,h=>by
  cases b with
  |zero=>
   simp at h;subst h
   simp only [To,Bool.or_false,Bool.and_eq_true] at hr
   exact hr.1
  |succ b=>
   have h:l[b]?=some (.row false x):=by simpa using h
   refine UI (M:=l) ?_ b x h
   cases r with
   |dead=>exact hr
   |row own y=>simp only [To,Bool.and_eq_true] at hr;exact hr.2
theorem Jw{k:Nat}{M:Ak}{ids:List Nat}(hok:UG k M ids=true){ι:Emb}{w:World}(hR:R ι M w):Step k ι M w (Ei k ids ι) (EI k M ids) w:=by
 simp only [UG,Bool.and_eq_true,decide_eq_true_eq,List.all_eq_true] at hok
 obtain ⟨⟨⟨hk,hd⟩,hge0⟩,hro⟩:=hok
 have hge:∀b∈ids,k≤b:=fun b hb=>(hge0 b hb).1
 have hlen:(EI k M ids).length=k+ids.length:=by simp [EI];omega
 have emb:∀ {j b:Nat},(j<k∧b=j)∨(k≤j∧ids[j-k]?=some b)→Ei k ids ι j=ι b:=by
  rintro j b (⟨hj,rfl⟩ | ⟨hj,hb⟩)
  ·exact if_pos hj
  ·unfold Ei;dsimp only;rw [if_neg O_,hb]
 have src:∀ {j j' b b':Nat},j≠j'→((j<k∧b=j)∨(k≤j∧ids[j-k]?=some b))→((j'<k∧b'=j')∨(k≤j'∧ids[j'-k]?=some b'))→b≠b':=by
  rintro j j' b b' hne (⟨hj,rfl⟩ | ⟨hj,hb⟩) (⟨hj',rfl⟩ | ⟨hj',hb'⟩) e
  ·exact hne e
  ·have:=hge b' (List.mem_of_getElem? hb');omega
  ·have:=hge b (List.mem_of_getElem? hb);omega
  ·subst e
   have:=Sf hd _ _ _ hb hb'
   omega
 refine Step.make hR (fun j hj=>?_) (fun j l own x hj hm=>?_) (fun j j' l l' own own' x x' hne hj hj' hm hm' ho=>?_) ⟨rfl,rfl,rfl,Nat.le_refl _,fun _ _ _=>rfl,fun c hc=>?_⟩ rfl (fun b hb=>if_pos hb) O_ (fun b x hb hm=>?_) (fun j own x hj hm=>?_) (fun j l own x hj h1 h2=>?_)
 ·unfold Ei
  dsimp only
  rw [if_neg O_,List.getElem?_eq_none O_]
 ·obtain ⟨b,y,hy,rfl,hb⟩:=FH hk hm
  rw [emb hb] at hj
  exact (hR.rows b l own y hj hy).ren (MI k ids ι)
 ·obtain ⟨b,y,hy,_,hb⟩:=FH hk hm
  obtain ⟨b',y',hy',_,hb'⟩:=FH hk hm'
  rw [emb hb] at hj
  rw [emb hb'] at hj'
  exact hR.inj b b' l l' own own' y y' (src hne hb hb') hj hj' hy hy' ho
 ·obtain ⟨j,l,x,hj,hm,rfl⟩:=hc
  obtain ⟨b,y,hy,_,hb⟩:=FH hk hm
  rw [emb hb] at hj
  exact .inr ⟨b,l,y,hj,hy,rfl⟩
 ·unfold EI
  rw [List.getElem?_append_left (by simp;omega),List.getElem?_map,List.getElem?_take,if_pos hb,hm]
  have:=UI hro b x (by rw [List.getElem?_take,if_pos hb];exact hm)
  simp only [Option.map_some,Row.ren,vu this]
 ·obtain ⟨b,y,hy,_,hb⟩:=FH hk hm
  rcases hb with ⟨_,rfl⟩ | ⟨h,_⟩
  ·exact ⟨y,hy⟩
  ·omega
 ·obtain ⟨b,y,hy,_,hb⟩:=FH hk h2
  rw [emb hb] at h1
  rcases hb with ⟨h,_⟩ | ⟨_,hb⟩
  ·omega
  ·exact .inr (.inr ⟨b,l,own,y,hge b (List.mem_of_getElem? hb),h1,hy,rfl⟩)
section
variable (ops:Array Oper)
def QH(o:Oper)(IK:Array Nat):Nat:=o.after.toList.foldl (fun s e=>if Region.binds .any e then s ||| 2^e.on ||| IK.getD e.on 0 else s) 0
def U4:List Oper→Array Nat→Array Nat
 |[],IK=>IK
 |o::l,IK=>U4 l (IK.push (QH o IK))
def Te(i j:Nat):Bool:=((U4 ops.toList #[]).getD i 0).testBit j
def BL(k:Nat):Option Tmp:=(ops[k]?).bind (·.dst)
end
section
variable {ops:Array Oper}
theorem ZP(o:Oper)(IK:Array Nat)(j:Nat)(h:(QH o IK).testBit j=true):∃e∈o.after,Region.binds .any e=true∧(j=e.on∨(IK.getD e.on 0).testBit j=true):=by
 have key:∀(l:List Edge) (s:Nat),(l.foldl (fun s e=>if Region.binds .any e then s ||| 2^e.on ||| IK.getD e.on 0 else s) s).testBit j=true→s.testBit j=true∨ ∃e∈l,Region.binds .any e=true∧(j=e.on∨(IK.getD e.on 0).testBit j=true):=by
  intro l
  induction l with
  |nil=>intro s h;exact .inl h
  |cons e l ih=>
   intro s h
   simp only [List.foldl_cons] at h
   rcases ih _ h with h | ⟨e',he',hb⟩
   ·split at h
    ·rename_i hbind
     simp only [Nat.testBit_or,Bool.or_eq_true] at h
     rcases h with (h | h) | h
     ·exact .inl h
     ·refine .inr ⟨e,List.mem_cons_self,hbind,.inl ?_⟩
      rw [Nat.testBit_two_pow] at h
      simpa using (of_decide_eq_true h).symm
     ·exact .inr ⟨e,List.mem_cons_self,hbind,.inr h⟩
    ·exact .inl h
   ·exact .inr ⟨e',List.mem_cons_of_mem _ he',hb⟩
 rcases key _ _ h with h | ⟨e,he,hb⟩
 ·simp at h
 ·exact ⟨e,by simpa using he,hb⟩
def Closed(ops:Array Oper)(listed:Nat→Bool):Prop:= ∀j oj,ops[j]?=some oj→listed j=true→ ∀e∈oj.after,Region.binds .any e=true→listed e.on=true
theorem Yn{listed:Nat→Bool}(hc:Closed ops listed):∀(l:List Oper) (IK:Array Nat),(∀j,l[j]?=ops[IK.size+j]?)→
  (∀i,i<IK.size→ ∀j,(IK.getD i 0).testBit j=true→ ∀o,ops[i]?=some o→(∀e∈o.after,Region.binds .any e=true→listed e.on=true)→listed j=true)→
  ∀i j,((U4 l IK).getD i 0).testBit j=true→ ∀o,ops[i]?=some o→(∀e∈o.after,Region.binds .any e=true→listed e.on=true)→listed j=true:=by
 intro l
 induction l with
 |nil=>
  intro IK _ hacc i j hb o ho hd
  by_cases hi:i<IK.size
  ·exact hacc i hi j hb o ho hd
  ·simp [U4,Array.getElem?_eq_none (Nat.le_of_not_lt hi)] at hb
 |cons o l ih=>
  intro IK hl hacc
  have h0:ops[IK.size]?=some o:=by simpa using (hl 0).symm
  refine ih (IK.push (QH o IK)) (fun j=>by have:=hl (j+1);simpa [Nat.add_assoc,Nat.add_comm 1 j] using this) ?_
  intro i hi j hb oi hoi hd
  simp only [Array.size_push] at hi
  by_cases hlt:i<IK.size
  ·have e:(IK.push (QH o IK)).getD i 0=IK.getD i 0:=by
    simp [Array.getElem?_push,Nat.ne_of_lt hlt]
   rw [e] at hb
   exact hacc i hlt j hb oi hoi hd
  ·obtain rfl:i=IK.size:=by omega
   have e:(IK.push (QH o IK)).getD IK.size 0=QH o IK:=by simp
   rw [e] at hb
   obtain rfl:o=oi:=Option.some.inj (h0.symm.trans hoi)
   obtain ⟨e,he,hbind,hj | hj⟩:=ZP o IK j hb
   ·rw [hj];exact hd e he hbind
   ·by_cases hlt2:e.on<IK.size
    ·have hon:=hd e he hbind
     obtain ⟨oe,hoe⟩:∃oe,ops[e.on]?=some oe:=by
      have:IK.size<ops.size:=(Array.getElem?_eq_some_iff.1 h0).1
      exact ⟨ops[e.on]'O_,Array.getElem?_eq_getElem O_⟩
     exact hacc e.on hlt2 j hj oe hoe (fun e' he' hb'=>hc e.on oe hoe hon e' he' hb')
    ·simp [Array.getElem?_eq_none (Nat.le_of_not_lt hlt2)] at hj
theorem Dm{listed:Nat→Bool}(hc:Closed ops listed){i j:Nat}(hb:Te ops i j=true){o:Oper}(ho:ops[i]?=some o)(hd:∀e∈o.after,Region.binds .any e=true→listed e.on=true):listed j=true:=
 Yn hc ops.toList #[] (by simp) (fun i hi=>absurd hi (by simp)) i j hb o ho hd
def TX(o:Oper):Bool:=match o.op with | .select .. =>false | _=>true
theorem Vl{o:Oper}(h:TX o=true):∀cs b,o.op≠ .select cs b:=by
 intro cs b e;simp [TX,e] at h
def Region.okX (ops : Array Oper) (n size : Nat) : Bool :=
  ops.toList.all TX &&
  (List.range n).all fun i =>
    (match BL ops i with | some d => decide (d < size) && (List.range n).all (fun j => decide (i = j) || BL ops j != some d) | none => true) &&
    (match ops[i]? with
     | some o => (o.looksAt ops).all fun t => (List.range n).all fun j => BL ops j != some t || (decide (j < i) && Te ops i j) || (decide (i < j) && Te ops j i)
     | none => true)
structure mS(ops:Array Oper)(n size:Nat):Prop where
 sel:∀(j:Nat) (o:Oper),ops[j]?=some o→ ∀cs b,o.op≠ .select cs b
 lt:∀i d,i<n→BL ops i=some d→d<size
 uniq:∀i j d,i<n→j<n→BL ops i=some d→BL ops j=some d→i=j
 look:∀i o t j,i<n→ops[i]?=some o→t∈o.looksAt ops→j<n→BL ops j=some t→(j<i∧Te ops i j=true)∨(i<j∧Te ops j i=true)
theorem Region.okX_spec{n size:Nat}(h:Region.okX ops n size=true):mS ops n size:=by
 simp only [Region.okX,Bool.and_eq_true,List.all_eq_true,List.mem_range] at h
 obtain ⟨h1,h2⟩:=h
 refine ⟨fun j o ho=>Vl (h1 o ?_),fun i d hi hd=>?_,fun i j d hi hj hd hd'=>?_,fun i o t j hi ho ht hj hd=>?_⟩
 ·have:=Array.mem_of_getElem? ho
  simpa using this
 ·have:=(h2 i hi).1
  rw [hd] at this
  simp only [Bool.and_eq_true,decide_eq_true_eq] at this
  exact this.1
 ·have:=(h2 i hi).1
  rw [hd] at this
  simp only [Bool.and_eq_true,decide_eq_true_eq,List.all_eq_true,List.mem_range,Bool.or_eq_true] at this
  rcases this.2 j hj with h | h
  ·exact h
  ·rw [hd'] at h;simp at h
 ·have:=(h2 i hi).2
  rw [ho] at this
  simp only [List.all_eq_true,List.mem_range,Bool.or_eq_true,Bool.and_eq_true,decide_eq_true_eq] at this
  rcases this t ht j hj with (h | h) | h
  ·rw [hd] at h;simp at h
  ·exact .inl h
  ·exact .inr h
end
def KB(n size:Nat):Array Bool:=((List.range size).map fun j=>decide (j<n)).toArray
def Region.okAll(ops:Array Oper)(n size:Nat):Bool:=
 decide (n≤ops.size)&&Region.okX ops n size&&(decide (n=ops.size) || (Region.sinkB .any ops n&&Region.chainB .any ops n))&&Region.seqB .any ops (ops.size-n) n (KB n ops.size)&&
 (List.range ops.size).all fun i=>match ops[i]? with | some o=>o.after.all fun e=> !Region.binds .any e || decide (e.on<i) | none=>true
def BK(ops:Array Oper)(n i0:Nat):Array Oper:=
 match ops[n]? with
 |none=>ops
 |some o=>ops.setIfInBounds n { o with after:=o.after.push ⟨i0,.data⟩ }
def MJ(ops:Array Oper)(n i0:Nat):Bool:=
 match ops[i0]?,ops[n]? with
 |some oi,some on=>
  decide (i0≠n)&&Region.noSelect ops&&(match oi.op with | .extract .. =>true | _=>false)&&oi.guard.isNone&&
  oi.after.all (fun e=> !Region.binds .any e || on.after.any fun e'=>Region.binds .any e'&&e'.on==e.on)&&
  (List.range ops.size).all (fun j=>j==i0 || oi.after.any (fun e=>Region.binds .any e&&e.on==j) || match ops[j]? with
   |some oj=>oj.after.any (fun e=>Region.binds .any e&&e.on==i0) || oi.apart ops oj
   |none=>true)
 |_,_=>false
structure Zu(ops:Array Oper)(n i0:Nat)(oi on:Oper):Prop where
 hi:ops[i0]?=some oi
 hn:ops[n]?=some on
 ne:i0≠n
 sel:Region.noSelect ops=true
 ext:∃x k,oi.op= .extract x k
 guard:oi.guard=none
 sub:∀e∈oi.after,Region.binds .any e=true→ ∃e'∈on.after,Region.binds .any e'=true∧e'.on=e.on
 free:∀j oj,ops[j]?=some oj→j≠i0→(∀e∈oi.after,Region.binds .any e=true→e.on≠j)→(∀e∈oj.after,Region.binds .any e=true→e.on≠i0)→oi.apart ops oj=true
section
variable {P:Program} {ops:Array Oper} {n i0:Nat} {oi on:Oper}
theorem WW(h:MJ ops n i0=true):∃oi on,Zu ops n i0 oi on:=by
 unfold MJ at h
 split at h
 ·rename_i oi on h1 h2
  simp only [Bool.and_eq_true,decide_eq_true_eq,Option.isNone_iff_eq_none] at h
  obtain ⟨⟨⟨⟨⟨a1,a2⟩,a3⟩,a4⟩,a5⟩,a6⟩:=h
  refine ⟨oi,on,h1,h2,a1,a2,?_,a4,fun e he hb=>?_,fun j oj hj hji hd hu=>?_⟩
  ·split at a3
   ·rename_i x k e;exact ⟨x,k,e⟩
   ·cases a3
  ·have:=Array.all_eq_true_iff_forall_mem.1 a5 e he
   simp only [hb,Bool.not_true,Bool.false_or] at this
   obtain ⟨e',he',h'⟩:=Array.any_eq_true'.1 this
   simp only [Bool.and_eq_true,beq_iff_eq] at h'
   exact ⟨e',he',h'.1,h'.2⟩
  ·have:=List.all_eq_true.1 a6 j (List.mem_range.2 (Array.getElem?_eq_some_iff.1 hj).1)
   simp only [hj,Bool.or_eq_true,beq_iff_eq] at this
   rcases this with (h3 | h3) | h3 | h3
   ·exact absurd h3 hji
   ·obtain ⟨e,he,h'⟩:=Array.any_eq_true'.1 h3
    simp only [Bool.and_eq_true,beq_iff_eq] at h'
    exact absurd h'.2 (hd e he h'.1)
   ·obtain ⟨e,he,h'⟩:=Array.any_eq_true'.1 h3
    simp only [Bool.and_eq_true,beq_iff_eq] at h'
    exact absurd h'.2 (hu e he h'.1)
   ·exact h3
 ·cases h
theorem kC(ops:Array Oper)(n i0:Nat):(BK ops n i0).size=ops.size:=by
 unfold BK
 split<;>simp
theorem Pk{j:Nat}(h:j≠n):(BK ops n i0)[j]?=ops[j]?:=by
 unfold BK
 split
 ·rfl
 ·exact Array.getElem?_setIfInBounds_ne (Ne.symm h)
theorem SH(h:ops[n]?=some on):(BK ops n i0)[n]?=some { on with after:=on.after.push ⟨i0,.data⟩ }:=by
 have hlt:n<ops.size:=(Array.getElem?_eq_some_iff.1 h).1
 unfold BK
 rw [h]
 simp [hlt]
theorem nq(j:Nat):((BK ops n i0)[j]?).bind (·.dst)=(ops[j]?).bind (·.dst):=by
 by_cases h:j=n
 ·subst h
  cases ho:ops[j]? with
  |none=>unfold BK;rw [ho];simp [ho]
  |some o=>rw [SH ho];rfl
 ·rw [Pk h]
theorem ZH(tmps:Array Value):yielded (BK ops n i0) tmps=yielded ops tmps:=by
 funext j
 unfold yielded
 rw [nq]
theorem YC{Q:Exit→Act→World→Prop}{i:Nat}{K:Act→World→Prop}{a:Act}{w:World}:wpOp P (BK ops n i0) Q i K a w=wpOp P ops Q i K a w:=by
 unfold wpOp
 rw [ZH]
 by_cases h:i=n
 ·subst h
  cases ho:ops[i]? with
  |none=>unfold BK;rw [ho];simp [ho]
  |some o=>rw [SH ho];rfl
 ·rw [Pk h]
def nrm(Q:Exit→Act→World→Prop)(e:Exit)(a:Act)(w:World):Prop:=e= .normal∧Q .normal a w
theorem W3{Q:Exit→Act→World→Prop}{i:Nat}{o:Oper}{K:Act→World→Prop}{a:Act}{w:World}(hi:ops[i]?=some o)(hop:∃x k,o.op= .extract x k)(hg:o.guard=none)(h:wpOp P ops (nrm Q) i K a w):
  ∃v,Yields P ops o v a∧K (a.put o.dst v) w:=by
 obtain ⟨x,k,hop⟩:=hop
 have hw:Region.wanted o (yielded ops a.tmps)=true:=by unfold Region.wanted;rw [hg]
 unfold wpOp at h
 simp only [hi,hw,if_true] at h
 rcases h with h | ⟨_,_,_,h,_⟩
 ·unfold Oper.wp at h
  have he:execOp a.eval o=(do pure (Next.value (←Instr.extract (a.eval x) k)):Sem Next):=by unfold execOp;rw [hop]
  rw [he] at h
  cases hx:a.eval x with
  |tuple vs=>
   rw [hx] at h
   cases hv:vs[k]? with
   |none=>simp only [Instr.extract,hv] at h;exact h.elim
   |some v=>
    simp only [Instr.extract,hv] at h
    refine ⟨v,.inl ⟨hw,fun w'=>?_⟩,h⟩
    rw [he,hx]
    simp only [Instr.extract,hv]
    rfl
  |_=>rw [hx] at h;exact h.elim
 ·cases h
theorem bI{listed:Array Bool}(hl:Zu ops n i0 oi on){j:Nat}(h:j∈Region.ready .any (BK ops n i0) listed):j∈Region.ready .any ops listed:=by
 obtain ⟨h0,o,ho,hall⟩:=mem_ready.1 h
 by_cases hj:j=n
 ·subst hj
  rw [SH hl.hn] at ho
  cases ho
  exact mem_ready.2 ⟨h0,on,hl.hn,fun e he hb=>hall e (Array.mem_push_of_mem _ he) hb⟩
 ·rw [Pk hj] at ho
  exact mem_ready.2 ⟨h0,o,ho,hall⟩
theorem iR{listed:Array Bool}(hs:listed.size=ops.size)(hl:Zu ops n i0 oi on){j:Nat}(h:j∈Region.ready .any ops listed):j∈Region.ready .any (BK ops n i0) listed∨i0∈Region.ready .any (BK ops n i0) listed:=by
 obtain ⟨h0,o,ho,hall⟩:=mem_ready.1 h
 by_cases hj:j=n
 ·subst hj
  rw [hl.hn] at ho
  cases ho
  cases hb0:listed.getD i0 false with
  |true=>
   refine .inl (mem_ready.2 ⟨h0,_,SH hl.hn,fun e he hb=>?_⟩)
   rcases Array.mem_push.1 he with he | rfl
   ·exact hall e he hb
   ·exact hb0
  |false=>
   refine .inr (mem_ready.2 ⟨?_,oi,by rw [Pk hl.ne];exact hl.hi,fun e he hb=>?_⟩)
   ·have hlt:i0<listed.size:=by rw [hs];exact (Array.getElem?_eq_some_iff.1 hl.hi).1
    simp [hlt] at hb0 ⊢
    exact hb0
   ·obtain ⟨e',he',hb',hon⟩:=hl.sub e he hb
    rw [←hon];exact hall e' he' hb'
 ·exact .inl (mem_ready.2 ⟨h0,o,by rw [Pk hj];exact ho,hall⟩)
theorem oC{Q:Exit→Act→World→Prop}(hl:Zu ops n i0 oi on):∀(f:Nat) (listed:Array Bool) (a:Act) (w:World),listed.size=ops.size→wpAny P .any (BK ops n i0) (nrm Q) f listed a w→wpAny P .any ops (nrm Q) f listed a w:=by
 have nil:∀listed:Array Bool,listed.size=ops.size→Region.ready .any (BK ops n i0) listed=[]→Region.ready .any ops listed=[]:=fun listed hs h=>by
  cases hr:Region.ready .any ops listed with
  |nil=>rfl
  |cons x l=>
   have hx:x∈Region.ready .any ops listed:=by rw [hr];exact List.mem_cons_self
   rcases iR hs hl hx with h' | h'<;>(rw [h] at h';cases h')
 have lin:∀listed:Array Bool,Region.ready .any ops listed=[]→Region.ready .any (BK ops n i0) listed=[]:=fun listed h=>by
  cases hr:Region.ready .any (BK ops n i0) listed with
  |nil=>rfl
  |cons x l=>
   have hx:x∈Region.ready .any (BK ops n i0) listed:=by rw [hr];exact List.mem_cons_self
   have:=bI hl hx
   rw [h] at this;cases this
 intro f
 induction f with
 |zero=>intro listed a w hs h;exact ⟨nil listed hs h.1,h.2⟩
 |succ f ih=>
  intro listed a w hs h
  by_cases hr:i0∈Region.ready .any (BK ops n i0) listed
  ·have h1:=h.2 i0 hr
   rw [YC] at h1
   obtain ⟨v,hy,hk⟩:=W3 hl.hi hl.ext hl.guard h1
   have hr':=bI hl hr
   refine wpAny_first hl.hi (Region.noSelect_spec hl.sel) (fun c a w h=>by cases h.1) f listed a w (fun j oj hj hji hun hno=>hl.free j oj hj hji (fun e he hb hon=>?_) hno) hr' hy (ih _ _ _ (by simpa using hs) hk)
   obtain ⟨_,o,ho,hall⟩:=mem_ready.1 hr'
   rw [hl.hi] at ho
   cases ho
   have h3:=hall e he hb
   rw [hon] at h3
   have hlt:j<listed.size:=by rw [hs];exact (Array.getElem?_eq_some_iff.1 hj).1
   simp [hlt] at h3 hun
   rw [h3] at hun;cases hun
  ·refine ⟨fun h0=>h.1 (lin listed h0),fun i hi=>?_⟩
   rcases iR hs hl hi with h' | h'
   ·have h1:=h.2 i h'
    rw [YC] at h1
    exact wpOp_mono (fun a w hk=>ih _ _ _ (by simpa using hs) hk) h1
   ·exact absurd h' hr
end
structure St where
 n:Nat
 t:Nat→AV
 m:Ak
def upd(t:Nat→AV)(d:Nat)(v:AV):Nat→AV:=fun i=>if i=d then v else t i
theorem upd_eq(t:Nat→AV)(d:Nat)(v:AV):upd t d v d=v:=if_pos rfl
theorem upd_ne(t:Nat→AV){d i:Nat}(v:AV)(h:i≠d):upd t d v i=t i:=if_neg h
def Ce(t:Nat→AV)(d:Option Tmp)(v:AV):Nat→AV:=match d with | none=>t | some d=>upd t d v
def bC(n:Nat):Option Tmp→Bool
 |none=>true
 |some d=>decide (d<n)
def CB(ops:Array Oper)(t:Nat→AV)(o:Oper):Option Bool:=
 match o.guard with
 |none=>some true
 |some (j,want)=>match (ops[j]?).bind (·.dst) with
  |some d=>match t d with
   |.c (.val (.bool b))=>some (b==want)
   |.c (.val (.tuple _))=>some false
   |_=>none
  |none=>none
abbrev mQ:AV:= .c (.val undef)
def noT:Nat→AV:=fun _=> .c .any
def AS:List Nat→List AV→Nat→AV
 |x::ks,v::vs=>upd (AS ks vs) x v
 |_,_=>noT
def clean(k:Nat)(keep:List Nat)(s:St):Option St:=
 match canon k (keep.map s.t) s.m with
 |some (vs,m,_)=>some ⟨s.n,AS keep vs,m⟩
 |none=>none
def DC(bs:List Nat)(mc:Ak)(ρ:Nat→Option Nat):Nat→Ak→Ak
 |_,[]=>[]
 |i,.row true x::l=>(match uC i bs 0 with | some j=>(mc.getD j .dead).ren ρ | none=> .row true x)::DC bs mc ρ (i+1) l
 |i,r::l=>r::DC bs mc ρ (i+1) l
def Ee(bs:List Nat)(n i:Nat):Option Nat:=if i<bs.length then bs[i]? else some (i-bs.length+n)
def GH(bs:List Nat)(m:Ak)(v:AV)(mc:Ak):AV×Ak:=
 (v.ren (Ee bs m.length),DC bs mc (Ee bs m.length) 0 m++(mc.drop bs.length).map (Row.ren (Ee bs m.length)))
def tN(args:List AV)(i:Nat):AV:=args.getD i (.c .any)
def He(P:Program)(s:St):ResultVar→Option AV
 |.tmp t=>match s.t t with
  |.tup _=>none
  |v=>some v
 |.cell a ty=>match s.t a with
  |.c (.ptr b o)=>match s.m[b]? with
   |some (.row _ x)=>FK P ty x o
   |_=>none
  |_=>none
def Gk(P:Program)(s:St):List ResultVar→Option (List AV)
 |[]=>some []
 |r::l=>match He P s r,Gk P s l with
  |some v,some vs=>some (v::vs)
  |_,_=>none
def uL:List AV→AV
 |[v]=>v
 |vs=> .tup vs
structure Wb(P:Program)(f:FuncId)(e:Array Value→Sem Value):Prop where
 h:∃fn,P.funcs[f]?=some fn∧(fn.name== "runtime.NumGoroutine")=false∧fn.body.isNone=true∧Extern.findNext fn=none∧Extern.find fn=some e
def zj:Row→Row
 |.row _ x=> .row false x
 |.dead=> .dead
def BZ(m:Ak):Ak:=m.map zj
def BG(o:Oper):Bool:=match o.op with | .store .. =>true | _=>false
def Gp(n:Nat):Ak:=List.replicate n .dead
def Region.okStores(ops:Array Oper)(size:Nat):Bool:=
 Region.okX ops ops.size size&&(List.range ops.size).all fun i=>match ops[i]? with
  |some o=>o.guard.isNone&&(!BG o || (o.dst.isNone&&(List.range ops.size).all fun j=>match ops[j]? with | some o'=> !BG o' || !decide (i<j) || Te ops j i | none=>true))&&o.after.all fun e=> !Region.binds .any e || decide (e.on<i)
  |none=>true
def early(ops:Array Oper)(i:Nat):Bool:=(List.range ops.size).all fun j=>match ops[j]? with | some o'=> !BG o' || Te ops j i | none=>true
def MG:Nat→Option Nat:=fun _=>none
inductive UQ (ρ:Nat→Option Nat):Cell→Cell→Prop
 |same {x:Cell} (h:x.ren MG=x):UQ ρ x x
 |ptr {b b' o:Nat} (h:ρ b'=some b):UQ ρ (.ptr b o) (.ptr b' o)
 |sl {b b' o len cap sz:Nat} (h:ρ b'=some b):UQ ρ (.sl b o len cap sz) (.sl b' o len cap sz)
 |nil {b' sz:Nat}:UQ ρ .nsl (.sl b' 0 0 0 sz)
 |emp {b' sz:Nat}:UQ ρ .esl (.sl b' 0 0 0 sz)
inductive R2 (ρ:Nat→Option Nat):List AV→List AV→Prop
 |nil:R2 ρ [] []
 |c {x y:Cell} {l m:List AV} (h:UQ ρ x y) (hl:R2 ρ l m):R2 ρ (.c x::l) (.c y::m)
 |agg {x:Arr} {l m:List AV} (h:x.ren MG=x) (hl:R2 ρ l m):R2 ρ (.agg x::l) (.agg x::m)
def If(ρ:Nat→Option Nat)(n m j:Nat):Option Nat:=if j<n then ρ j else some (j-n+m)
inductive Ex where
 |normal
 |exit (id:Nat)
 |ret
inductive xB where
 |op (o:Op) (e:Operand→AV) (m:Ak)
 |ops (k:Nat) (ops:Array Oper) (l:List Oper) (s:St)
 |code (k:Nat) (c:Code) (s:St)
 |call (f:FuncId) (args:List AV) (m:Ak)
inductive Res where
 |val (v:AV) (m:Ak)
 |out (e:Ex) (s:St)
def Ex.block(id:Nat):Ex→Ex
 |.exit i=>if i=id then .normal else .exit i
 |e=>e
def Cw(x y c:BitVec 64):BitVec 64:=BitVec.ofNat 64 ((x.toNat+y.toNat+c.toNat)/18446744073709551616)
def IN(x y c:BitVec 64):BitVec 64:=if x.toNat<y.toNat+c.toNat then 1#64 else 0#64
def dZ(f:BitVec 64→BitVec 64→BitVec 64→AV):List AV→Option AV
 |[.c (.val a),.c (.val b),.c (.val c)]=>match ci a,ci b,ci c with
  |some x,some y,some z=>if z.toNat≤1 then some (f x y z) else none
  |_,_,_=>none
 |_=>none
def oy(x y c:BitVec 64):AV:= .tup [.c (.val (BW (x+y+c))),.c (.val (BW (Cw x y c)))]
def qf(x y c:BitVec 64):AV:= .tup [.c (.val (BW (x-y-c))),.c (.val (BW (IN x y c)))]
def sub64Entry:Array Value→Sem Value:=fun args=>do
 let (x,y,b) ←Extern.MathBitsCarry.three "Sub64" args
 pure (Extern.MathBitsCarry.pair ((x+Extern.MathBitsCarry.m64-y-b)%Extern.MathBitsCarry.m64) (if x<y+b then 1 else 0))
structure DT(ι:Emb)(s:St)(a:Act):Prop where
 size:a.tmps.size=s.n
 rel:∀t,(s.t t).rel ι (a.tmps.getD t undef)
theorem DT.mono{ι ι':Emb}{s:St}{a:Act}(h:DT ι s a)(hle:ι.le ι')(m:Ak):DT ι' ⟨s.n,s.t,m⟩ a:=⟨h.size,fun t=>AV.rel_mono hle (h.rel t)⟩
theorem O5(a:Act)(d t:Nat)(v:Value)(hd:d<a.tmps.size):(a.put (some d) v).tmps.getD t undef=if t=d then v else a.tmps.getD t undef:=by
 simp only [Act.put,Array.getD_eq_getD_getElem?,Array.getElem?_setIfInBounds]
 by_cases e:d=t
 ·subst e;simp [hd]
 ·rw [if_neg e,if_neg (fun h=>e h.symm)]
theorem DT.put{ι:Emb}{s:St}{a:Act}(h:DT ι s a){d:Option Tmp}{v:AV}{u:Value}(hd:bC s.n d=true)(hv:v.rel ι u)(m:Ak):DT ι ⟨s.n,Ce s.t d v,m⟩ (a.put d u):=by
 cases d with
 |none=>exact ⟨h.size,h.rel⟩
 |some d=>
  simp only [bC,decide_eq_true_eq] at hd
  refine ⟨by simp [Act.put,h.size],fun t=>?_⟩
  rw [O5 a d t u (by rw [h.size];exact hd)]
  show (upd s.t d v t).rel ι _
  by_cases e:t=d
  ·subst e;rw [upd_eq,if_pos rfl];exact hv
  ·rw [upd_ne _ _ e,if_neg e];exact h.rel t
theorem bU{ι:Emb}{s:St}{a:Act}(h:DT ι s a)(x:Operand):(AC s.t x).rel ι (a.eval x):=by
 cases x with
 |tmp t=>exact h.rel t
 |const v=>exact AV.rel_of0 (Ox ι v)
 |global g=>trivial
 |func f=>rfl
theorem Qf{ι:Emb}{t:Nat→AV}{a:Act}{ops:Array Oper}{o:Oper}{b:Bool}(h:∀d,(∃g,o.guard=some g∧(ops[g.1]?).bind (·.dst)=some d)→(t d).rel ι (a.tmps.getD d undef))(hw:CB ops t o=some b):Region.wanted o (yielded ops a.tmps)=b:=by
 unfold CB at hw
 unfold Region.wanted
 split at hw
 ·rename_i hg;rw [hg];cases hw;rfl
 ·rename_i j want hg
  rw [hg]
  split at hw
  ·rename_i d hd
   split at hw
   ·rename_i x hx
    cases hw
    have:=h d ⟨_,hg,hd⟩
    rw [hx] at this
    have hv:a.tmps.getD d undef= .bool x:=this
    have hs:a.tmps[d]?=some (.bool x):=by
     rw [Array.getD_eq_getD_getElem?] at hv
     cases he:a.tmps[d]? with
     |none=>rw [he] at hv;simp [undef] at hv
     |some y=>rw [he] at hv;simp at hv;rw [hv]
    unfold yielded
    simp only [hd,Option.bind_some,hs]
    cases x<;>cases want<;>rfl
   ·rename_i y hy
    cases hw
    have:=h d ⟨_,hg,hd⟩
    rw [hy] at this
    have hv:a.tmps.getD d undef= .tuple y:=this
    unfold yielded
    simp only [hd,Option.bind_some]
    rw [Array.getD_eq_getD_getElem?] at hv
    cases he:a.tmps[d]? with
    |none=>rfl
    |some z=>rw [he] at hv;simp at hv;subst hv;rfl
   ·cases hw
  ·cases hw
def Th(P:Program)(ρ:Operand→Value)(O:Oper)(ι:Emb)(m:Ak)(w:World)(v:AV)(m':Ak):Prop:=
 xi P ι m w v m' (execOp ρ O)∨ ∃f args,(execOp ρ O).run P w= .ok (.enter f args) w∧Calls P f args w fun e w'=> ∃u ι',e= .returned u∧v.rel ι' u∧Step m.length ι m w ι' m' w'
def Ex.out:Ex→Exit
 |.normal=> .normal
 |.exit id=> .exit id
 |.ret=> .ret
def Cb(ι:Emb):List AV→List Value→Prop
 |[],[]=>True
 |a::l,v::m=>a.rel ι v∧Cb ι l m
 |_,_=>False
def gG(P:Program)(c:Code)(Q:Exit→Act→World→Prop)(a:Act)(w:World):Prop:=
 ∀(b:Frame) (k:List Item) (cs:List Frame),∃e a' w',Q e a' w'∧Arrives P (lone (b.at a (.code c:: .inLoop c::k)) cs w) b k cs e a' w'
def wpC(P:Program)(c:Code)(Q:Exit→Act→World→Prop)(a:Act)(w:World):Prop:=
 match c with
 |.loop c=>gG P c Q a w
 |c=>c.wp P Q a w
theorem NY{P:Program}{c:Code}{Q:Exit→Act→World→Prop}{a:Act}{w:World}(h:wpC P c Q a w):c.wp P Q a w:=by
 cases c with
 |loop c=>intro b k cs;obtain ⟨e,a',w',q,r⟩:=h b k cs;exact ⟨e,a',w',q,.of_steps (.one step_loop) r⟩
 |_=>exact h
theorem UH{P:Program}{c:Code}{Q:Exit→Act→World→Prop}{a:Act}{w:World}(h:c.wp P (Exit.then (gG P c Q) Q) a w):gG P c Q a w:=by
 intro b k cs
 obtain ⟨e,a₁,w₁,hq,harr⟩:=h b (.inLoop c::k) cs
 cases e with
 |normal=>
  obtain ⟨e₂,a₂,w₂,hq₂,harr₂⟩:=hq b k cs
  exact ⟨e₂,a₂,w₂,hq₂,.of_steps (Steps.trans harr (.one step_inLoop)) harr₂⟩
 |exit id=>exact ⟨_,a₁,w₁,hq,.pass (x:= .inLoop c) rfl (fun _ _=> .inl (by simp)) harr⟩
 |goto l=>exact ⟨_,a₁,w₁,hq,.pass (x:= .inLoop c) rfl (fun _ _=> .inl (by simp)) harr⟩
 |ret=>exact ⟨_,a₁,w₁,hq,.pass (x:= .inLoop c) rfl (fun _ _=> .inl (by simp)) harr⟩
 |panic ch=>exact ⟨_,a₁,w₁,hq,.pass (x:= .inLoop c) rfl (fun _ _=> .inl (by simp)) harr⟩
 |outgrown=>exact ⟨_,a₁,w₁,hq,.pass (x:= .inLoop c) rfl (fun _ _=> .inl (by simp)) harr⟩
def O7 (P : Program) : xB → Res → Prop
  | .op o e m, .val v m' => ∀ (O : Oper) (ι : Emb) (w : World) (ρ : Operand → Value), O.op = o → R ι m w → (∀ x ∈ o.operands, (e x).rel ι (ρ x)) → Th P ρ O ι m w v m'
  | .ops k ops l s, .out e s' => e = .normal → ∀ (ι : Emb) (w : World) (a : Act), k ≤ s.m.length → R ι s.m w → DT ι s a → ∀ Q : Exit → Act → World → Prop,
      (∀ ι' a' w', DT ι' s' a' → a'.defers = a.defers → Step k ι s.m w ι' s'.m w' → Q .normal a' w') → wpList P ops Q l a w
  | .code k c s, .out e s' => ∀ (ι : Emb) (w : World) (a : Act), k ≤ s.m.length → R ι s.m w → DT ι s a → ∀ Q : Exit → Act → World → Prop,
      (∀ ι' a' w', DT ι' s' a' → a'.defers = a.defers → Step k ι s.m w ι' s'.m w' → Q e.out a' w') → wpC P c Q a w
  | .call f args m, .val v m' => ∀ (ι : Emb) (w : World) (vs : Array Value), R ι m w → Cb ι args vs.toList → Calls P f vs w fun e w' => ∃ u ι', e = .returned u ∧ v.rel ι' u ∧ Step m.length ι m w ι' m' w'
  | _, _ => True
inductive Ev (P : Program) : xB → Res → Prop
  | val {o e m v} (h : AL P e m o = some v) : Ev P (.op o e m) (.val v m)
  | mem {o e m v m'} (h : CP P e m o = some (v, m')) : Ev P (.op o e m) (.val v m')
  | fn {c : Call} {e m args mc bs v mc'} (f : FuncId) (hc : c.callee = .value (.func f)) (he : e (.func f) = .c (.val (.func (.func f) #[] #[]))) (hf : (P.funcs[f]?).any (fun fn => fn.body.isSome && !(fn.name == "runtime.NumGoroutine")) = true) (hin : canon 0 (c.args.toList.map e) m = some (args, mc, bs))
      (h : Ev P (.call f args mc) (.val v mc')) : Ev P (.op (.call c) e m) (.val (GH bs m v mc').1 (GH bs m v mc').2)
  | add64 {c : Call} {e m v} (f : FuncId) (hc : c.callee = .value (.func f)) (he : e (.func f) = .c (.val (.func (.func f) #[] #[]))) (hf : Wb P f add64Entry) (h : dZ oy (c.args.toList.map e) = some v) : Ev P (.op (.call c) e m) (.val v m)
  | sub64 {c : Call} {e m v} (f : FuncId) (hc : c.callee = .value (.func f)) (he : e (.func f) = .c (.val (.func (.func f) #[] #[]))) (hf : Wb P f sub64Entry) (h : dZ qf (c.args.toList.map e) = some v) : Ev P (.op (.call c) e m) (.val v m)
  | ro {o e m v N} (h : Ev P (.op o e (BZ m)) (.val v (BZ m ++ N))) : Ev P (.op o e m) (.val v (m ++ N))
  | nil {k ops s} : Ev P (.ops k ops [] s) (.out .normal s)
  | cons {k ops o l s v m' r} (hw : CB ops s.t o = some true) (hd : bC s.n o.dst = true) (h : Ev P (.op o.op (AC s.t) s.m) (.val v m')) (hk : Ev P (.ops k ops l ⟨s.n, Ce s.t o.dst v, m'⟩) (.out .normal r)) : Ev P (.ops k ops (o :: l) s) (.out .normal r)
  | skip {k ops o l s r} (hw : CB ops s.t o = some false) (hd : bC s.n o.dst = true) (hk : Ev P (.ops k ops l ⟨s.n, Ce s.t o.dst mQ, s.m⟩) (.out .normal r)) : Ev P (.ops k ops (o :: l) s) (.out .normal r)
  | region {k id ops s r} (h : Ev P (.ops k ops ops.toList s) (.out .normal r)) : Ev P (.code k (.region id ops false) s) (.out .normal r)
  | draw {k id ops s r} (n : Nat) (A : Nat → St) (W : Nat → Bool) (V : Nat → AV) (N : Nat → Ak) (hm : P.follows .mixedOrders = true) (hok : Region.okAll ops n s.n = true) (hA : A 0 = s)
      (hW : ∀ i o, i < n → ops[i]? = some o → CB ops (A i).t o = some (W i))
      (hV : ∀ i o, i < n → ops[i]? = some o → W i = true → Ev P (.op o.op (AC (A i).t) (BZ (A i).m)) (.val (V i) (BZ (A i).m ++ N i)))
      (hS : ∀ i o, i < n → ops[i]? = some o → A (i + 1) = if W i = true then ⟨s.n, Ce (A i).t o.dst (V i), (A i).m ++ N i⟩ else ⟨s.n, Ce (A i).t o.dst mQ, (A i).m⟩)
      (hk : Ev P (.ops k ops (ops.toList.drop n) (A n)) (.out .normal r)) : Ev P (.code k (.region id ops true) s) (.out .normal r)
  | late {k id ops s r} (n i0 : Nat) (A : Nat → St) (W : Nat → Bool) (V : Nat → AV) (N : Nat → Ak) (hm : P.follows .mixedOrders = true) (hc : MJ ops n i0 = true) (hok : Region.okAll (BK ops n i0) n s.n = true) (hA : A 0 = s)
      (hW : ∀ i o, i < n → (BK ops n i0)[i]? = some o → CB (BK ops n i0) (A i).t o = some (W i))
      (hV : ∀ i o, i < n → (BK ops n i0)[i]? = some o → W i = true → Ev P (.op o.op (AC (A i).t) (BZ (A i).m)) (.val (V i) (BZ (A i).m ++ N i)))
      (hS : ∀ i o, i < n → (BK ops n i0)[i]? = some o → A (i + 1) = if W i = true then ⟨s.n, Ce (A i).t o.dst (V i), (A i).m ++ N i⟩ else ⟨s.n, Ce (A i).t o.dst mQ, (A i).m⟩)
      (hk : Ev P (.ops k (BK ops n i0) ((BK ops n i0).toList.drop n) (A n)) (.out .normal r)) : Ev P (.code k (.region id ops true) s) (.out .normal r)
  | stores {k id ops s} (A : Nat → St) (V : Nat → AV) (hm : P.follows .mixedOrders = true) (hok : Region.okStores ops s.n = true) (hA : A 0 = s)
      (hP : ∀ i o, ops[i]? = some o → BG o = false → AL P (AC (A i).t) (Gp s.m.length) o.op = some (V i) ∧ A (i + 1) = ⟨s.n, Ce (A i).t o.dst (V i), (A i).m⟩)
      (hS : ∀ i o, ops[i]? = some o → BG o = true → ∃ v m', CP P (AC (A i).t) (A i).m o.op = some (v, m') ∧ m'.length = (A i).m.length ∧ A (i + 1) = ⟨s.n, (A i).t, m'⟩) : Ev P (.code k (.region id ops true) s) (.out .normal (A ops.size))
  | stores2 {k id ops s} (A : Nat → St) (V : Nat → AV) (E : Nat → Bool) (hm : P.follows .mixedOrders = true) (hok : Region.okStores ops s.n = true) (hA : A 0 = s)
      (hP : ∀ i o, ops[i]? = some o → BG o = false → E i = false → ∃ Mk : Ak, (∀ c, c ≤ ops.size → ∀ (ι : Emb) (w : World), R ι (A c).m w → R ι Mk w) ∧ AL P (AC (A i).t) Mk o.op = some (V i))
      (hE : ∀ i o, ops[i]? = some o → BG o = false → E i = true → Ev P (.op o.op (AC (A i).t) s.m) (.val (V i) s.m))
      (hE2 : ∀ i o, ops[i]? = some o → BG o = false → (E i = true → early ops i = true) ∧ A (i + 1) = ⟨s.n, Ce (A i).t o.dst (V i), (A i).m⟩)
      (hS : ∀ i o, ops[i]? = some o → BG o = true → ∃ v m', CP P (AC (A i).t) (A i).m o.op = some (v, m') ∧ m'.length = (A i).m.length ∧ A (i + 1) = ⟨s.n, (A i).t, m'⟩) : Ev P (.code k (.region id ops true) s) (.out .normal (A ops.size))
  | clean {k c s s1 r} (keep : List Nat) (hc : clean k keep s = some s1) (h : Ev P (.code k c s1) r) : Ev P (.code k c s) r
  | tidy {k c s e s1 s2} (keep : List Nat) (h : Ev P (.code k c s) (.out e s1)) (hc : clean k keep s1 = some s2) : Ev P (.code k c s) (.out e s2)
  | cskip {k s} : Ev P (.code k .skip s) (.out .normal s)
  | label {k s l} : Ev P (.code k (.label l) s) (.out .normal s)
  | seq {k a b s s1 r} (h1 : Ev P (.code k a s) (.out .normal s1)) (h2 : Ev P (.code k b s1) r) : Ev P (.code k (.seq a b) s) r
  | seqx {k a b s s1 e} (h1 : Ev P (.code k a s) (.out e s1)) (he : e ≠ .normal) : Ev P (.code k (.seq a b) s) (.out e s1)
  | cond {k c a b s r} (t : Bool) (hc : AC s.t c = .c (.val (.bool t))) (h : Ev P (.code k (if t then a else b) s) r) : Ev P (.code k (.cond c a b) s) r
  | block {k id c s s1 e} (h : Ev P (.code k c s) (.out e s1)) : Ev P (.code k (.block id c) s) (.out (e.block id) s1)
  | loop {k c s s1 r} (h1 : Ev P (.code k c s) (.out .normal s1)) (h2 : Ev P (.code k (.loop c) s1) r) : Ev P (.code k (.loop c) s) r
  | loopx {k c s s1 e} (h1 : Ev P (.code k c s) (.out e s1)) (he : e ≠ .normal) : Ev P (.code k (.loop c) s) (.out e s1)
  | exit {k id s} : Ev P (.code k (.exit id) s) (.out (.exit id) s)
  | ret {k s} : Ev P (.code k .ret s) (.out .ret s)
  | scope {k c s s1 e} (h : Ev P (.code k c s) (.out e s1)) : Ev P (.code k (.scope c) s) (.out e s1)
  | view {f args m args' m' v N} (ρ : Nat → Option Nat) (hρ : ∀ j i, ρ j = some i → j < m'.length ∧ ∃ own x, m[i]? = some (.row own x) ∧ m'[j]? = some (.row false x) ∧ x.ren MG = x) (ha : R2 ρ args args')
      (h : Ev P (.call f args' m') (.val v (m' ++ N))) : Ev P (.call f args m) (.val (v.ren (If ρ m'.length m.length)) (m ++ N.map (Row.ren (If ρ m'.length m.length))))
  | call {f fn c args m e s' vs v m' ids} (hf : P.funcs[f]? = some fn) (hb : fn.body = some c) (hn : args.length ≤ fn.ntmps) (h : Ev P (.code m.length c ⟨fn.ntmps, tN args, m⟩) (.out e s')) (he : e = .normal ∨ e = .ret)
      (hres : Gk P s' fn.results.toList = some vs) (hcan : canon m.length [uL vs] s'.m = some ([v], m', ids)) : Ev P (.call f args m) (.val v m')
  | snd {k c s e s1} (h : O7 P (.code k c s) (.out e s1)) : Ev P (.code k c s) (.out e s1)
  | weak {k c s s1 r} (hw : ∀ (ι : Emb) (w : World) (a : Act), k ≤ s.m.length → R ι s.m w → DT ι s a → ∃ ι', DT ι' s1 a ∧ Step k ι s.m w ι' s1.m w) (h : Ev P (.code k c s1) r) : Ev P (.code k c s) r
  | sem {o e m v m'} (h : ∀ (O : Oper) (ι : Emb) (w : World) (ρ : Operand → Value), O.op = o → R ι m w → (∀ x ∈ o.operands, (e x).rel ι (ρ x)) → Th P ρ O ι m w v m') : Ev P (.op o e m) (.val v m')
  | semF {f args m v m'} (h : ∀ (ι : Emb) (w : World) (vs : Array Value), R ι m w → Cb ι args vs.toList → Calls P f vs w fun e w' => ∃ u ι', e = .returned u ∧ v.rel ι' u ∧ Step m.length ι m w ι' m' w') : Ev P (.call f args m) (.val v m')
theorem Th.wp{P:Program}{ρ:Operand→Value}{O:Oper}{ι:Emb}{m m':Ak}{w:World}{v:AV}{a:Act}(ha:ρ=a.eval)(h:Th P ρ O ι m w v m'){K:Act→World→Prop}{Q:Exit→Act→World→Prop}
  (hK:∀u w' ι',v.rel ι' u→Step m.length ι m w ι' m' w'→K (a.put O.dst u) w'):O.wp P a w K Q:=by
 subst ha
 unfold Oper.wp
 rcases h with ⟨u,w',ι',hr,hv,hs⟩ | ⟨f,args,hr,hc⟩
 ·rcases hr with hr | ⟨hr,rfl⟩
  ·rw [hr];exact hK u w' ι' hv hs
  ·rw [hr];exact hK undef w' ι' hv hs
 ·rw [hr]
  refine hc.mono fun e w' he=>?_
  obtain ⟨u,ι',rfl,hv,hs⟩:=he
  exact hK u w' ι' hv hs
theorem CO(bs:List Nat)(mc:Ak)(ρ:Nat→Option Nat):∀(m:Ak) (i:Nat),(DC bs mc ρ i m).length=m.length
 |[],_=>rfl
 |.dead::l,i=>by simp [DC,CO bs mc ρ l (i+1)]
 |.row true x::l,i=>by simp [DC,CO bs mc ρ l (i+1)]
 |.row false x::l,i=>by simp [DC,CO bs mc ρ l (i+1)]
theorem NK(bs:List Nat)(mc:Ak)(ρ:Nat→Option Nat):∀(m:Ak) (i b:Nat),(DC bs mc ρ i m)[b]?=(m[b]?).map fun r=>match r with
  |.row true x=>(match uC (i+b) bs 0 with | some j=>(mc.getD j .dead).ren ρ | none=> .row true x)
  |r=>r
 |[],i,b=>by simp [DC]
 |r::l,i,b=>by
  cases b with
  |zero=>cases r with
   |dead=>simp [DC]
   |row own x=>
    cases own
    ·simp [DC]
    ·simp only [DC,List.getElem?_cons_zero,Option.map_some,Nat.add_zero]
     all_goals (cases uC i bs 0<;>rfl)
  |succ b=>
   have ih:=NK bs mc ρ l (i+1) b
   rw [show i+(b+1)=i+1+b by omega]
   cases r with
   |dead=>simp only [DC,List.getElem?_cons_succ];exact ih
   |row own x=>cases own<;>(simp only [DC,List.getElem?_cons_succ];exact ih)
theorem Uo{r:Row}{ρ:Nat→Option Nat}{own:Bool}{x:Arr}(h:r.ren ρ= .row own x):∃y,r= .row own y∧x=y.ren ρ:=by
 cases r with
 |dead=>cases h
 |row o y=>cases h;exact ⟨y,rfl,rfl⟩
theorem mf{m:Ak}{b:Nat}{own:Bool}{x:Arr}(h:m.getD b .dead= .row own x):m[b]?=some (.row own x):=by
 rw [List.getD_eq_getElem?_getD] at h
 cases hm:m[b]? with
 |none=>rw [hm] at h;cases h
 |some r=>rw [hm] at h;simp at h;rw [h]
def Kv(n k:Nat)(ι ιc:Emb):Emb:=⟨fun b=>if b<n then ι b else ιc (b-n+k),ιc.tx⟩
theorem VQ{m:Ak}{bs:List Nat}(hok:UG 0 m bs=true){ι:Emb}{w:World}(hR:R ι m w){ιc':Emb}{mc':Ak}{w':World}
  (h:Step bs.length (Ei 0 bs ι) (EI 0 m bs) w ιc' mc' w') {v:AV} {u:Value} (hv:v.rel ιc' u):
  (GH bs m v mc').1.rel (Kv m.length bs.length ι ιc') u∧Step m.length ι m w (Kv m.length bs.length ι ιc') (GH bs m v mc').2 w':=by
 have hok':=hok
 simp only [UG,Bool.and_eq_true,decide_eq_true_eq,List.all_eq_true] at hok'
 obtain ⟨⟨⟨_,hd⟩,hlt⟩,_⟩:=hok'
 have hblt:∀i b,bs[i]?=some b→b<m.length:=fun i b hb=>(hlt b (List.mem_of_getElem? hb)).2
 have hcl:(EI 0 m bs).length=bs.length:=by simp [EI]
 have emb0:∀i b,bs[i]?=some b→Ei 0 bs ι i=ι b:=fun i b hb=>by unfold Ei;dsimp only;rw [if_neg O_,Nat.sub_zero,hb]
 have lnew:∀b,m.length≤b→Kv m.length bs.length ι ιc' b=ιc' (b-m.length+bs.length):=fun b hb=>by unfold Kv;dsimp only;rw [if_neg O_]
 have lold:∀b,b<m.length→Kv m.length bs.length ι ιc' b=ι b:=fun b hb=>if_pos hb
 have same:Same (Ee bs m.length) ιc' (Kv m.length bs.length ι ιc'):=by
  refine ⟨fun i b hb=>?_,fun _ _ _ h=>h⟩
  unfold Ee at hb
  by_cases hi:i<bs.length
  ·rw [if_pos hi] at hb
   rw [h.ext i hi,emb0 i b hb,lold b (hblt i b hb)]
  ·rw [if_neg hi] at hb
   cases hb
   rw [lnew _ O_]
   congr 1
   omega
 have hle:ι.le (Kv m.length bs.length ι ιc'):=by
  refine ⟨fun b l hb=>?_,h.tx⟩
  have:b<m.length:=by
   rcases Nat.lt_or_ge b m.length with h | h
   ·exact h
   ·rw [hR.dom b h] at hb;cases hb
  rw [lold b this];exact hb
 have pick:∀ {b:Nat} {own:Bool} {x:Arr},(GH bs m v mc').2[b]?=some (.row own x)→
   (b<m.length∧m[b]?=some (.row own x)∧(own=true→b ∉ bs))∨
   (b<m.length∧ ∃(j:Nat) (x0 y:Arr),bs[j]?=some b∧m[b]?=some (.row true x0)∧mc'[j]?=some (.row own y)∧x=y.ren (Ee bs m.length))∨
   (m.length≤b∧ ∃y:Arr,mc'[b-m.length+bs.length]?=some (.row own y)∧x=y.ren (Ee bs m.length)):=by
  intro b own x hb
  simp only [GH] at hb
  by_cases hbm:b<m.length
  ·rw [List.getElem?_append_left (by rw [CO];exact hbm),NK,Nat.zero_add] at hb
   obtain ⟨r,hr,e⟩:=Option.map_eq_some_iff.1 hb
   split at e
   ·rename_i x0
    split at e
    ·rename_i j hj
     obtain ⟨_,hj2⟩:=Wu hj
     rw [Nat.sub_zero] at hj2
     obtain ⟨y,hy,hx⟩:=Uo e
     exact .inr (.inl ⟨hbm,j,x0,y,hj2,hr,mf hy,hx⟩)
    ·rename_i hj
     cases e
     refine .inl ⟨hbm,hr,fun _ hmem=>?_⟩
     have none_mem:∀(l:List Nat) (i:Nat),uC b l i=none→b ∉ l:=by
      intro l
      induction l with
      |nil=>intro i _ h;cases h
      |cons y l ih=>
       intro i hi hm
       unfold uC at hi
       split at hi
       ·cases hi
       ·rename_i hne
        rcases List.mem_cons.1 hm with e | e
        ·exact hne e.symm
        ·exact ih _ hi e
     exact none_mem bs 0 hj hmem
   ·cases e
    rename_i hne
    refine .inl ⟨hbm,hr,fun ho=>?_⟩
    subst ho
    exact absurd rfl (hne x)
  ·rw [List.getElem?_append_right (by rw [CO];omega),CO,List.getElem?_map,List.getElem?_drop] at hb
   obtain ⟨r,hr,e⟩:=Option.map_eq_some_iff.1 hb
   obtain ⟨y,rfl,hx⟩:=Uo e
   refine .inr (.inr ⟨by omega,y,?_,hx⟩)
   rw [Nat.add_comm];exact hr
 have callee:∀c,C5 (Ei 0 bs ι) (EI 0 m bs) c→ ∃(b:Nat) (l:Loc) (x:Arr),b∈bs∧ι b=some l∧m[b]?=some (.row true x)∧l.c=c:=by
  rintro c ⟨j,l,x,hj,hm,rfl⟩
  obtain ⟨b,y,hy,_,hb⟩:=FH (Nat.zero_le _) hm
  rcases hb with ⟨hb,_⟩ | ⟨_,hb⟩
  ·omega
  ·rw [Nat.sub_zero] at hb
   rw [emb0 j b hb] at hj
   exact ⟨b,l,y,List.mem_of_getElem? hb,hj,hy,rfl⟩
 have calleeOwned:∀c,C5 (Ei 0 bs ι) (EI 0 m bs) c→C5 ι m c:=fun c hc=>by
  obtain ⟨b,l,x,_,hb,hm,rfl⟩:=callee c hc
  exact ⟨b,l,x,hb,hm,rfl⟩
 have apart:∀ {b:Nat} {l:Loc} {own:Bool} {x:Arr},ι b=some l→m[b]?=some (.row own x)→(own=true→b ∉ bs)→ ¬C5 (Ei 0 bs ι) (EI 0 m bs) l.c:=by
  intro b l own x hb hm ho hc
  obtain ⟨b2,l2,x2,hmem,hb2,hm2,e⟩:=callee _ hc
  by_cases hbb:b2=b
  ·subst hbb
   rw [hm] at hm2
   cases hm2
   exact ho rfl hmem
  ·exact hR.inj b2 b l2 l true own x2 x hbb hb2 hb hm2 hm (.inl rfl) e
 have news:∀ {i:Nat} {l:Loc} {own:Bool} {y:Arr},bs.length≤i→ιc' i=some l→mc'[i]?=some (.row own y)→w.heap.size≤l.c∨C5 (Ei 0 bs ι) (EI 0 m bs) l.c:=by
  intro i l own y hi h1 h2
  rcases h.news i l own y hi h1 h2 with h3 | h3 | ⟨b0,l0,o0,x0,hb0,_,h5,_⟩
  ·exact .inl h3
  ·exact .inr h3
  ·exact (H9 (by rw [hcl];exact hb0) h5).elim
 have fromB:∀ {b j:Nat} {l:Loc},b<m.length→bs[j]?=some b→Kv m.length bs.length ι ιc' b=some l→ι b=some l∧ιc' j=some l:=by
  intro b j l hb hj h1
  rw [lold b hb] at h1
  have hj':j<bs.length:=(List.getElem?_eq_some_iff.1 hj).1
  exact ⟨h1,by rw [h.ext j hj',emb0 j b hj];exact h1⟩
 refine ⟨AV.ren_rel same hv,⟨fun b hb=>?_,fun b l own x h1 h2=>?_,fun b b' l l' own own' x x' hne h1 h1' h2 h2' ho=>?_,fun c Φ hc=>⟨(h.r.stay c Φ (hc.to ιc')).1,fun b l x h1 h2 e=>?_⟩⟩,⟨h.trans.os,h.trans.tape,h.trans.output,h.trans.size,fun c hc hn=>h.trans.keep c hc (fun hq=>hn (calleeOwned c hq)),fun c hc=>?_⟩,
  h.tx,fun c o v hc=>(h.txn c o v hc).imp id (.imp id (calleeOwned c)),fun b hb=>lold b hb,by simp [GH,CO],fun b x hb hm=>?_,fun b own x hb hm=>?_,fun b l own x hb h1 h2=>?_⟩
 ·have hl:=h.len
  simp only [GH,List.length_append,CO,List.length_map,List.length_drop] at hb
  rw [lnew b O_]
  exact h.r.dom _ O_
 ·rcases pick h2 with ⟨hb,hm,ho⟩ | ⟨hb,j,x0,y,hj,hm,hy,rfl⟩ | ⟨hb,y,hy,rfl⟩
  ·rw [lold b hb] at h1
   exact (hR.rows b l own x h1 hm).heap (h.trans.keep l.c (hR.lt h1 hm) (apart h1 hm ho)) hle
  ·obtain ⟨h3,h4⟩:=fromB hb hj h1
   exact (h.r.rows j l own y h4 hy).ren same
  ·rw [lnew b hb] at h1
   exact (h.r.rows _ l own y h1 hy).ren same
 ·rcases pick h2 with ⟨hb,hm,hq⟩ | ⟨hb,j,x0,y,hj,hm,hy,_⟩ | ⟨hb,y,hy,_⟩<;>rcases pick h2' with ⟨hb',hm',hq'⟩ | ⟨hb',j',x0',y',hj',hm',hy',_⟩ | ⟨hb',y',hy',_⟩
  ·rw [lold b hb] at h1;rw [lold b' hb'] at h1'
   exact hR.inj b b' l l' own own' x x' hne h1 h1' hm hm' ho
  ·rw [lold b hb] at h1;rw [lold b' hb'] at h1'
   exact hR.inj b b' l l' own true x x0' hne h1 h1' hm hm' (.inr rfl)
  ·rw [lold b hb] at h1;rw [lnew b' hb'] at h1'
   rcases news O_ h1' hy' with h3 | h3
   ·have:=hR.lt h1 hm;omega
   ·exact fun e=>apart h1 hm hq (by rw [e];exact h3)
  ·rw [lold b hb] at h1;rw [lold b' hb'] at h1'
   exact hR.inj b b' l l' true own' x0 x' hne h1 h1' hm hm' (.inl rfl)
  ·rw [lold b hb] at h1;rw [lold b' hb'] at h1'
   exact hR.inj b b' l l' true true x0 x0' hne h1 h1' hm hm' (.inl rfl)
  ·obtain ⟨_,h4⟩:=fromB hb hj h1
   rw [lnew b' hb'] at h1'
   have hj2:j<bs.length:=(List.getElem?_eq_some_iff.1 hj).1
   exact h.r.inj j _ l l' own own' y y' O_ h4 h1' hy hy' ho
  ·rw [lnew b hb] at h1;rw [lold b' hb'] at h1'
   rcases news O_ h1 hy with h3 | h3
   ·have:=hR.lt h1' hm';omega
   ·exact fun e=>apart h1' hm' hq' (by rw [←e];exact h3)
  ·obtain ⟨_,h4⟩:=fromB hb' hj' h1'
   rw [lnew b hb] at h1
   have hj2:j'<bs.length:=(List.getElem?_eq_some_iff.1 hj').1
   exact h.r.inj _ j' l l' own own' y y' O_ h1 h4 hy hy' ho
  ·rw [lnew b hb] at h1;rw [lnew b' hb'] at h1'
   exact h.r.inj _ _ l l' own own' y y' O_ h1 h1' hy hy' ho
 ·rcases pick h2 with ⟨hb,hm,hq⟩ | ⟨hb,j,x0,y,hj,hm,hy,_⟩ | ⟨hb,y,hy,_⟩
  ·rw [lold b hb] at h1
   rcases h.stayn (hc.to ιc') with h3 | h3 | h3
   ·exact (hR.stay c Φ (h3.to ι)).2 b l x h1 hm e
   ·have:=hR.lt h1 hm;omega
   ·exact apart h1 hm hq (by rw [e];exact h3)
  ·obtain ⟨_,h4⟩:=fromB hb hj h1
   exact (h.r.stay c Φ (hc.to ιc')).2 j l y h4 hy e
  ·rw [lnew b hb] at h1
   exact (h.r.stay c Φ (hc.to ιc')).2 _ l y h1 hy e
 ·obtain ⟨b,l,x,h1,h2,rfl⟩:=hc
  rcases pick h2 with ⟨hb,hm,hq⟩ | ⟨hb,j,x0,y,hj,hm,hy,_⟩ | ⟨hb,y,hy,_⟩
  ·rw [lold b hb] at h1;exact .inr ⟨b,l,x,h1,hm,rfl⟩
  ·rw [lold b hb] at h1;exact .inr ⟨b,l,x0,h1,hm,rfl⟩
  ·rw [lnew b hb] at h1
   rcases h.trans.fresh l.c ⟨_,l,y,h1,hy,rfl⟩ with h3 | h3
   ·exact .inl h3
   ·exact .inr (calleeOwned _ h3)
 ·simp only [GH]
  rw [List.getElem?_append_left (by rw [CO];exact hb),NK,hm]
  rfl
 ·rcases pick hm with ⟨_,hm,_⟩ | ⟨_,j,x0,y,hj,hm,hy,_⟩ | ⟨hb',_⟩
  ·exact ⟨x,hm⟩
  ·obtain ⟨x1,hx1⟩:=h.old j own y (List.getElem?_eq_some_iff.1 hj).1 hy
   obtain ⟨b2,y2,hy2,_,hb2⟩:=FH (Nat.zero_le _) hx1
   rcases hb2 with ⟨hb2,_⟩ | ⟨_,hb2⟩
   ·omega
   ·rw [Nat.sub_zero,hj] at hb2
    cases hb2
    exact ⟨y2,hy2⟩
  ·omega
 ·rcases pick h2 with ⟨hb',_⟩ | ⟨hb',_⟩ | ⟨_,y,hy,_⟩
  ·omega
  ·omega
  ·rw [lnew b hb] at h1
   rcases news O_ h1 hy with h3 | h3
   ·exact .inl h3
   ·exact .inr (.inl (calleeOwned _ h3))
end Go.Proofs.YtmbepikkgkcgkaaGreatDoor
