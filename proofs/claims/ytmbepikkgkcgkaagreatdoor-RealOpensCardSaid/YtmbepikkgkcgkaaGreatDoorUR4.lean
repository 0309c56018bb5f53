/- Merged and shortened by a program: part 4. -/
import Derived.Test.YtmbepikkgkcgkaaGreatDoorUR3
set_option maxRecDepth 100000
set_option maxHeartbeats 8000000
namespace Go.Proofs.YtmbepikkgkcgkaaGreatDoor
open Go.RowKit
variable {g r : Prop}
open Go.Proofs.Tryz
section
variable {P:Program} {k:Nat} {s s1:St} {a b:Code} {Φ:Ex→St→Prop}
theorem A2{id:Nat}{l:List Oper}(h:WO P k l.toArray l s (Φ .normal)):WC P k (.region id l.toArray false) s Φ:=let ⟨r,h1,h2⟩:=h.h;⟨⟨.normal,r,Ev.region h1,h2⟩⟩
def ALU(P:Program)(k:Nat)(b:Code)(Φ:Ex→St→Prop):Ex→St→Prop
 |.normal,s=>WC P k b s Φ
 |e,s=>Φ e s
theorem ADw(h:WC P k a s (ALU P k b Φ)):WC P k (.seq a b) s Φ:=by
 obtain ⟨e,r,h1,h2⟩:=h.h
 cases e with
 |normal=>obtain ⟨e',r',h3,h4⟩:=h2.h;exact ⟨⟨e',r',Ev.seq h1 h3,h4⟩⟩
 |exit id=>exact ⟨⟨_,r,Ev.seqx h1 (by simp),h2⟩⟩
 |ret=>exact ⟨⟨_,r,Ev.seqx h1 (by simp),h2⟩⟩
theorem zp(h:Φ .normal s):WC P k .skip s Φ:=⟨⟨_,_,Ev.cskip,h⟩⟩
theorem tH{l:Nat}(h:Φ .normal s):WC P k (.label l) s Φ:=⟨⟨_,_,Ev.label,h⟩⟩
theorem AGc{id:Nat}(h:Φ (.exit id) s):WC P k (.exit id) s Φ:=⟨⟨_,_,Ev.exit,h⟩⟩
theorem AI7(h:Φ .ret s):WC P k .ret s Φ:=⟨⟨_,_,Ev.ret,h⟩⟩
theorem rD(h:WC P k a s Φ):WC P k (.scope a) s Φ:=let ⟨e,r,h1,h2⟩:=h.h;⟨⟨e,r,Ev.scope h1,h2⟩⟩
def yd(id:Nat)(Φ:Ex→St→Prop):Ex→St→Prop
 |.exit i,s=>if i=id then Φ .normal s else Φ (.exit i) s
 |e,s=>Φ e s
theorem sC{id:Nat}(h:WC P k a s (yd id Φ)):WC P k (.block id a) s Φ:=by
 obtain ⟨e,r,h1,h2⟩:=h.h
 refine ⟨⟨_,r,Ev.block h1,?_⟩⟩
 cases e with
 |normal=>exact h2
 |ret=>exact h2
 |exit i=>
  simp only [yd,Ex.block] at h2 ⊢
  split
  ·rename_i e;rw [if_pos e] at h2;exact h2
  ·rename_i e;rw [if_neg e] at h2;exact h2
theorem FJ{c:Operand}{t:Bool}(hc:AF s.t c= .c (.val (.bool t)))(ht:t=true)(h:WC P k a s Φ):WC P k (.cond c a b) s Φ:=let ⟨e,r,h1,h2⟩:=h.h;⟨⟨e,r,Ev.cond true (by rw [hc,ht]) h1,h2⟩⟩
theorem Cg{c:Operand}{t:Bool}(hc:AF s.t c= .c (.val (.bool t)))(ht:t=false)(h:WC P k b s Φ):WC P k (.cond c a b) s Φ:=let ⟨e,r,h1,h2⟩:=h.h;⟨⟨e,r,Ev.cond false (by rw [hc,ht]) h1,h2⟩⟩
theorem ZK(keep:List Nat)(hc:clean k keep s=some s1)(h:WC P k a s1 Φ):WC P k a s Φ:=let ⟨e,r,h1,h2⟩:=h.h;⟨⟨e,r,Ev.clean keep hc h1,h2⟩⟩
def bp(k:Nat)(keep:List Nat){σ:Type}(I:σ→St)(y:σ):Ex→St→Prop
 |.normal,s=> ∃x,clean k keep s=some (I x)∧x=y
 |_,_=>False
def AJD(Φ:Ex→St→Prop):Ex→St→Prop
 |.normal,_=>False
 |e,s=>Φ e s
theorem od(keep:List Nat){σ:Type}(I:σ→St)(f:Nat→σ)(n:Nat){c:Code}{s0:St}(h0:s0=I (f 0))(hstep:∀j,j<n→WC P k c (I (f j)) (bp k keep I (f (j+1))))(hend:WC P k c (I (f n)) (AJD Φ)):WC P k (.loop c) s0 Φ:=by
 subst h0
 have key:∀d j,j+d=n→WC P k (.loop c) (I (f j)) Φ:=by
  intro d
  induction d with
  |zero=>
   intro j hj
   obtain rfl:j=n:=by omega
   obtain ⟨e,r,h1,h2⟩:=hend.h
   cases e with
   |normal=>exact h2.elim
   |exit id=>exact ⟨⟨_,r,Ev.loopx h1 (by simp),h2⟩⟩
   |ret=>exact ⟨⟨_,r,Ev.loopx h1 (by simp),h2⟩⟩
  |succ d ih=>
   intro j hj
   obtain ⟨e,r,h1,h2⟩:=(hstep j O_).h
   cases e with
   |normal=>
    obtain ⟨x,h3,rfl⟩:=h2
    obtain ⟨e',r',h4,h5⟩:=(ih (j+1) O_).h
    exact ⟨⟨e',r',Ev.loop h1 (Ev.clean keep h3 h4),h5⟩⟩
   |exit id=>exact h2.elim
   |ret=>exact h2.elim
 exact key n 0 O_
theorem AK(keep:List Nat){σ:Type}(I:σ→St)(f:Nat→σ)(n:Nat){c:Code}{s0:St}(h0:clean k keep s0=some (I (f 0)))(hstep:∀j,j<n→WC P k c (I (f j)) (bp k keep I (f (j+1))))(hend:WC P k c (I (f n)) (AJD Φ)):WC P k (.loop c) s0 Φ:=
 ZK keep h0 (od keep I f n rfl hstep hend)
theorem Eb(keep:List Nat){σ:Type}(I:σ→St)(y:σ){c:Operand}{t:Bool}(hc:AF s.t c= .c (.val (.bool t)))(ha:t=true→WC P k a s (bp k keep I y))(hb:t=false→WC P k b s (bp k keep I y))(h:Φ .normal (I y)):WC P k (.cond c a b) s Φ:=by
 cases t with
 |true=>
  obtain ⟨e,r,h1,h2⟩:=(ha rfl).h
  cases e with
  |normal=>obtain ⟨x,h3,rfl⟩:=h2;exact ⟨⟨_,_,Ev.tidy keep (Ev.cond true hc h1) h3,h⟩⟩
  |exit id=>exact h2.elim
  |ret=>exact h2.elim
 |false=>
  obtain ⟨e,r,h1,h2⟩:=(hb rfl).h
  cases e with
  |normal=>obtain ⟨x,h3,rfl⟩:=h2;exact ⟨⟨_,_,Ev.tidy keep (Ev.cond false hc h1) h3,h⟩⟩
  |exit id=>exact h2.elim
  |ret=>exact h2.elim
def ra(P:Program)(n:Nat)(rs:List ResultVar)(v:AV)(m':Az):Ex→St→Prop
 |.exit _,_=>False
 |_,s=> ∃vs ids,JY P s rs=some vs∧canon n [AC4 vs] s.m=some ([v],m',ids)
theorem AI{f:FuncId}{fn:Func}{c:Code}{args:List AV}{m m':Az}{v:AV}{N n:Nat}(hf:P.funcs[f]?=some fn)(hb:fn.body=some c)(hN:fn.ntmps=N)(hn:Nat.ble args.length N=true)(hm:m.length=n)
  (h:WC P n c ⟨N,AHU args,m⟩ (ra P n fn.results.toList v m')):Ev P (.call f args m) (.val v m'):=by
 subst hm;subst hN
 obtain ⟨e,r,h1,h2⟩:=h.h
 cases e with
 |exit id=>exact h2.elim
 |normal=>obtain ⟨vs,ids,h3,h4⟩:=h2;exact Ev.call hf hb (Nat.le_of_ble_eq_true hn) h1 (.inl rfl) h3 h4
 |ret=>obtain ⟨vs,ids,h3,h4⟩:=h2;exact Ev.call hf hb (Nat.le_of_ble_eq_true hn) h1 (.inr rfl) h3 h4
end
theorem Hu{P:Program}{s:St}{a:Tmp}{ty:TypeId}{b n:Nat}{own:Bool}{x:Arr}(ha:s.t a= .c (.ptr b 0))(hm:s.m[b]?=some (.row own x))(hr:BX P ty=some true)(hs:EM P ty=some n)(hx:x.size=n)(h0:0<n):Mr P s (.cell a ty)=some (.agg x):=by
 simp [Mr,ha,hm,G4,hr,hs,hx,h0,H2]
theorem Iu{P:Program}{s:St}{t:Tmp}{c:Cell}(h:s.t t= .c c):Mr P s (.tmp t)=some (.c c):=by simp [Mr,h]
def yr(n:Nat)(v:AV)(m:Az):Option (List AV×Az):=(canon n [v] m).map fun r=>(r.1,r.2.1)
theorem Xp{n:Nat}{v v':AV}{m m':Az}(h:yr n v m=some ([v'],m')):∃ids,canon n [v] m=some ([v'],m',ids):=by
 unfold yr at h
 obtain ⟨⟨a,b,c⟩,h1,h2⟩:=Option.map_eq_some_iff.1 h
 simp only [Prod.mk.injEq] at h2
 obtain ⟨rfl,rfl⟩:=h2
 exact ⟨c,h1⟩
theorem kG{P:Program}{n:Nat}{s:St}{r1:ResultVar}{v1 v:AV}{m':Az}(h1:Mr P s r1=some v1)(hc:yr n v1 s.m=some ([v],m')):ra P n [r1] v m' .ret s:=let ⟨ids,h⟩:=Xp hc;⟨[v1],ids,by simp [JY,h1],h⟩
theorem k_2{P:Program}{n:Nat}{s:St}{r1 r2:ResultVar}{v1 v2 v:AV}{m':Az}(h1:Mr P s r1=some v1)(h2:Mr P s r2=some v2)(hc:yr n (.tup [v1,v2]) s.m=some ([v],m')):ra P n [r1,r2] v m' .ret s:=let ⟨ids,h⟩:=Xp hc;⟨[v1,v2],ids,by simp [JY,h1,h2],h⟩
section
variable {t:TypeId}
theorem ALB{a b:Int}(h: -9223372036854775808≤a+b∧a+b≤9223372036854775807):binOp .add t (.int .i64 a) (.int .i64 b)=(pure (.int .i64 (a+b)):Sem Value):=by
 show (pure (Value.int .i64 (IntKind.i64.wrap (a+b))):Sem Value)=_
 rw [IntWalk.i64_in _ O_]
theorem AGf{a b:Int}(h: -9223372036854775808≤a-b∧a-b≤9223372036854775807):binOp .sub t (.int .i64 a) (.int .i64 b)=(pure (.int .i64 (a-b)):Sem Value):=by
 show (pure (Value.int .i64 (IntKind.i64.wrap (a-b))):Sem Value)=_
 rw [IntWalk.i64_in _ O_]
theorem ALi{a b:Int}(h: -9223372036854775808≤a*b∧a*b≤9223372036854775807):binOp .mul t (.int .i64 a) (.int .i64 b)=(pure (.int .i64 (a*b)):Sem Value):=by
 show (pure (Value.int .i64 (IntKind.i64.wrap (a*b))):Sem Value)=_
 rw [IntWalk.i64_in _ O_]
theorem AKM{a b:Int}:binOp .lss t (.int .i64 a) (.int .i64 b)=(pure (.bool (decide (a<b))):Sem Value):=rfl
theorem AKS{a b:Int}:binOp .gtr t (.int .i64 a) (.int .i64 b)=(pure (.bool (decide (b<a))):Sem Value):=rfl
theorem AJO{a b:Int}:binOp .geq t (.int .i64 a) (.int .i64 b)=(pure (.bool (decide (b≤a))):Sem Value):=rfl
theorem AJ6{a b:Int}:binOp .eql t (.int .i64 a) (.int .i64 b)=(pure (.bool (a==b)):Sem Value):=rfl
theorem AIm{a b:Int}:binOp .neq t (.int .i64 a) (.int .i64 b)=(pure (.bool (a !=b)):Sem Value):=rfl
theorem addN{a b:Nat}(h:a+b≤9223372036854775807):binOp .add t (.int .i64 (a:Int)) (.int .i64 (b:Int))=(pure (.int .i64 ((a+b:Nat):Int)):Sem Value):=ALB O_
theorem ALA{a b:Nat}(h:b≤a)(h2:a≤9223372036854775807):binOp .sub t (.int .i64 (a:Int)) (.int .i64 (b:Int))=(pure (.int .i64 ((a-b:Nat):Int)):Sem Value):=by
 rw [AGf O_];congr 2;omega
theorem mulN{a b:Nat}(h:a*b≤9223372036854775807):binOp .mul t (.int .i64 (a:Int)) (.int .i64 (b:Int))=(pure (.int .i64 ((a*b:Nat):Int)):Sem Value):=by
 rw [ALi (by rw [←Int.natCast_mul];omega)];rfl
theorem ALS{a b:Nat}(h:0<b)(h2:a≤9223372036854775807):binOp .quo t (.int .i64 (a:Int)) (.int .i64 (b:Int))=(pure (.int .i64 ((a/b:Nat):Int)):Sem Value):=by
 rw [binOp_quo,Op.intDiv,if_neg O_]
 show (pure (Value.int .i64 (IntKind.i64.wrap ((a/b:Nat):Int))):Sem Value)=_
 have hle:=Nat.div_le_self a b
 generalize a/b=q at*
 rw [IntWalk.i64_in _ O_]
theorem ALM{a b:Nat}(h:0<b)(_h2:a≤9223372036854775807):binOp .rem t (.int .i64 (a:Int)) (.int .i64 (b:Int))=(pure (.int .i64 ((a%b:Nat):Int)):Sem Value):=by
 rw [binOp_rem,Op.intDiv,if_neg O_]
 rfl
theorem ALT{a b:Nat}:binOp .lss t (.int .i64 (a:Int)) (.int .i64 (b:Int))=(pure (.bool (decide (a<b))):Sem Value):=by
 rw [AKM];congr 2;exact decide_eq_decide.2 O_
theorem AKu{a b:Nat}:binOp .gtr t (.int .i64 (a:Int)) (.int .i64 (b:Int))=(pure (.bool (decide (b<a))):Sem Value):=by
 rw [AKS];congr 2;exact decide_eq_decide.2 O_
theorem ALc{a b:Nat}:binOp .geq t (.int .i64 (a:Int)) (.int .i64 (b:Int))=(pure (.bool (decide (b≤a))):Sem Value):=by
 rw [AJO];congr 2;exact decide_eq_decide.2 O_
theorem AK2{a b:Nat}:binOp .eql t (.int .i64 (a:Int)) (.int .i64 (b:Int))=(pure (.bool (decide (a=b))):Sem Value):=by
 rw [AJ6];congr 2;rw [Bool.eq_iff_iff];simp;omega
theorem AKr{a b:Nat}:binOp .neq t (.int .i64 (a:Int)) (.int .i64 (b:Int))=(pure (.bool (!decide (a=b))):Sem Value):=by
 rw [AIm];congr 2;rw [Bool.eq_iff_iff];simp;omega
theorem AGV{x:BitVec 64}{kd:IntKind}{n:Nat}:binOp .shl t (Bp x) (.int kd (n:Int))=(pure (Bp (x<<<n)):Sem Value):=by rw [ADX x kd n O_,Int.toNat_natCast]
theorem AF7{x:BitVec 64}{kd:IntKind}{n:Nat}:binOp .shr t (Bp x) (.int kd (n:Int))=(pure (Bp (x>>>n)):Sem Value):=by rw [AEK x kd n O_,Int.toNat_natCast]
theorem AFQ{x:BitVec 32}{kd:IntKind}{n:Nat}:binOp .shl t (EQ x) (.int kd (n:Int))=(pure (EQ (x<<<n)):Sem Value):=by rw [ADd x kd n O_,Int.toNat_natCast]
theorem AGY{x:BitVec 32}{kd:IntKind}{n:Nat}:binOp .shr t (EQ x) (.int kd (n:Int))=(pure (EQ (x>>>n)):Sem Value):=by rw [ADc x kd n O_,Int.toNat_natCast]
theorem AI8{x:BitVec 8}{kd:IntKind}{n:Nat}:binOp .shl t (U8 x) (.int kd (n:Int))=(pure (U8 (x<<<n)):Sem Value):=by rw [ALk x kd n O_,Int.toNat_natCast]
theorem AIM{x:BitVec 8}{kd:IntKind}{n:Nat}:binOp .shr t (U8 x) (.int kd (n:Int))=(pure (U8 (x>>>n)):Sem Value):=by rw [ALV x kd n O_,Int.toNat_natCast]
theorem ADr(x:BitVec 8):IntKind.u64.wrap (tn x)=tn (x.setWidth 64):=by rw [Gh];unfold tn;rw [E2]
theorem AEP(x:BitVec 8):IntKind.u32.wrap (tn x)=tn (x.setWidth 32):=by rw [Ih];unfold tn;rw [E2]
theorem AGr(x:BitVec 64):IntKind.u32.wrap (tn x)=tn (x.setWidth 32):=by rw [Ih];unfold tn;rw [E2]
theorem ABP(x:BitVec 64):IntKind.u8.wrap (tn x)=tn (x.setWidth 8):=by rw [Q5];unfold tn;rw [E2]
theorem yY(x:BitVec 32):IntKind.u8.wrap (tn x)=tn (x.setWidth 8):=by rw [Q5];unfold tn;rw [E2]
theorem AA6(n:Nat):IntKind.u64.wrap (n:Int)=tn (BitVec.ofNat 64 n):=by rw [Gh,BitVec.ofInt_natCast];rfl
theorem AKE(n:Nat):IntKind.u32.wrap (n:Int)=tn (BitVec.ofNat 32 n):=by rw [Ih,BitVec.ofInt_natCast];rfl
theorem AK7(n:Nat):IntKind.u8.wrap (n:Int)=tn (BitVec.ofNat 8 n):=by rw [Q5,BitVec.ofInt_natCast];rfl
theorem AJo(x:BitVec 8):IntKind.i64.wrap (tn x)=((x.toNat:Nat):Int):=IntWalk.i64_in _ (by unfold tn;have:=x.isLt;omega)
end
section
variable {P:Program} {k N:Nat} {ops:Array Oper} {d:Nat} {ty:TypeId} {pos:String} {af:Array Edge} {l:List Oper} {T:Nat→AV} {M:Az} {K:St→Prop} {t t':TypeId} {x y:Operand}
theorem Tv{a b:BitVec 64}(hx:AF T x= .c (.val (Bp a)))(hy:AF T y= .c (.val (Bp b))):AS P (AF T) M (.binOp .add t x y t')=some ((.c (.val (Bp (a+b))))):=
 CG hx hy (add64 a b)
theorem jH{a b:BitVec 64}(hx:AF T x= .c (.val (Bp a)))(hy:AF T y= .c (.val (Bp b))):AS P (AF T) M (.binOp .sub t x y t')=some ((.c (.val (Bp (a-b))))):=
 CG hx hy (sub64 a b)
theorem Gk{a b:BitVec 64}(hx:AF T x= .c (.val (Bp a)))(hy:AF T y= .c (.val (Bp b))):AS P (AF T) M (.binOp .and t x y t')=some ((.c (.val (Bp (a&&&b))))):=
 CG hx hy (AJf a b)
theorem gC{a b:BitVec 64}(hx:AF T x= .c (.val (Bp a)))(hy:AF T y= .c (.val (Bp b))):AS P (AF T) M (.binOp .or t x y t')=some ((.c (.val (Bp (a ||| b))))):=
 CG hx hy (ALC a b)
theorem tT{a b:BitVec 64}(hx:AF T x= .c (.val (Bp a)))(hy:AF T y= .c (.val (Bp b))):AS P (AF T) M (.binOp .xor t x y t')=some ((.c (.val (Bp (a^^^b))))):=
 CG hx hy (AJ1 a b)
theorem Gx{a b:BitVec 64}(hx:AF T x= .c (.val (Bp a)))(hy:AF T y= .c (.val (Bp b))):AS P (AF T) M (.binOp .mul t x y t')=some ((.c (.val (Bp (a*b))))):=
 CG hx hy (AH8 a b)
theorem VY{a b:BitVec 32}(hx:AF T x= .c (.val (EQ a)))(hy:AF T y= .c (.val (EQ b))):AS P (AF T) M (.binOp .add t x y t')=some ((.c (.val (EQ (a+b))))):=
 CG hx hy (AJT a b)
theorem If{a b:BitVec 32}(hx:AF T x= .c (.val (EQ a)))(hy:AF T y= .c (.val (EQ b))):AS P (AF T) M (.binOp .and t x y t')=some ((.c (.val (EQ (a&&&b))))):=
 CG hx hy (AIc a b)
theorem Xu{a b:BitVec 32}(hx:AF T x= .c (.val (EQ a)))(hy:AF T y= .c (.val (EQ b))):AS P (AF T) M (.binOp .or t x y t')=some ((.c (.val (EQ (a ||| b))))):=
 CG hx hy (ALK a b)
theorem rp{a b:BitVec 32}(hx:AF T x= .c (.val (EQ a)))(hy:AF T y= .c (.val (EQ b))):AS P (AF T) M (.binOp .xor t x y t')=some ((.c (.val (EQ (a^^^b))))):=
 CG hx hy (AJx a b)
theorem sP{a b:BitVec 32}(hx:AF T x= .c (.val (EQ a)))(hy:AF T y= .c (.val (EQ b))):AS P (AF T) M (.binOp .mul t x y t')=some ((.c (.val (EQ (a*b))))):=
 CG hx hy (AIq a b)
theorem Xy{a b:BitVec 8}(hx:AF T x= .c (.val (U8 a)))(hy:AF T y= .c (.val (U8 b))):AS P (AF T) M (.binOp .sub t x y t')=some ((.c (.val (U8 (a-b))))):=
 CG hx hy (ALR a b)
theorem OH{a b:BitVec 8}(hx:AF T x= .c (.val (U8 a)))(hy:AF T y= .c (.val (U8 b))):AS P (AF T) M (.binOp .and t x y t')=some ((.c (.val (U8 (a&&&b))))):=
 CG hx hy (ALL a b)
theorem cG{a b:BitVec 8}(hx:AF T x= .c (.val (U8 a)))(hy:AF T y= .c (.val (U8 b))):AS P (AF T) M (.binOp .or t x y t')=some ((.c (.val (U8 (a ||| b))))):=
 CG hx hy (or8 a b)
theorem OW{a b:BitVec 8}(hx:AF T x= .c (.val (U8 a)))(hy:AF T y= .c (.val (U8 b))):AS P (AF T) M (.binOp .xor t x y t')=some ((.c (.val (U8 (a^^^b))))):=
 CG hx hy (ALF a b)
theorem CM{a:BitVec 64}{kd:IntKind}{j:Nat}(hx:AF T x= .c (.val (Bp a)))(hy:AF T y= .c (.val (.int kd (j:Int)))):AS P (AF T) M (.binOp .shl t x y t')=some ((.c (.val (Bp (a<<<j))))):=
 CG hx hy (AGV)
theorem CW{a:BitVec 64}{kd:IntKind}{j:Nat}(hx:AF T x= .c (.val (Bp a)))(hy:AF T y= .c (.val (.int kd (j:Int)))):AS P (AF T) M (.binOp .shr t x y t')=some ((.c (.val (Bp (a>>>j))))):=
 CG hx hy (AF7)
theorem SC{a:BitVec 32}{kd:IntKind}{j:Nat}(hx:AF T x= .c (.val (EQ a)))(hy:AF T y= .c (.val (.int kd (j:Int)))):AS P (AF T) M (.binOp .shl t x y t')=some ((.c (.val (EQ (a<<<j))))):=
 CG hx hy (AFQ)
theorem Hp{a:BitVec 32}{kd:IntKind}{j:Nat}(hx:AF T x= .c (.val (EQ a)))(hy:AF T y= .c (.val (.int kd (j:Int)))):AS P (AF T) M (.binOp .shr t x y t')=some ((.c (.val (EQ (a>>>j))))):=
 CG hx hy (AGY)
theorem jO{a:BitVec 8}{kd:IntKind}{j:Nat}(hx:AF T x= .c (.val (U8 a)))(hy:AF T y= .c (.val (.int kd (j:Int)))):AS P (AF T) M (.binOp .shl t x y t')=some ((.c (.val (U8 (a<<<j))))):=
 CG hx hy (AI8)
theorem Vu{a:BitVec 8}{kd:IntKind}{j:Nat}(hx:AF T x= .c (.val (U8 a)))(hy:AF T y= .c (.val (.int kd (j:Int)))):AS P (AF T) M (.binOp .shr t x y t')=some ((.c (.val (U8 (a>>>j))))):=
 CG hx hy (AIM)
theorem cQ{a:BitVec 64}{b:BitVec 64}(hx:AF T x= .c (.val (Bp a)))(hy:AF T y= .c (.val (Bp b))):AS P (AF T) M (.binOp .shl t x y t')=some ((.c (.val (Bp (a<<<b.toNat))))):=
 CG hx hy (AG8 a b)
theorem ko{a:BitVec 64}{b:BitVec 64}(hx:AF T x= .c (.val (Bp a)))(hy:AF T y= .c (.val (Bp b))):AS P (AF T) M (.binOp .shr t x y t')=some ((.c (.val (Bp (a>>>b.toNat))))):=
 CG hx hy (AGa a b)
theorem wu{a:BitVec 32}{b:BitVec 64}(hx:AF T x= .c (.val (EQ a)))(hy:AF T y= .c (.val (Bp b))):AS P (AF T) M (.binOp .shl t x y t')=some ((.c (.val (EQ (a<<<b.toNat))))):=
 CG hx hy (AG0 a b)
theorem aZ{a:BitVec 32}{b:BitVec 64}(hx:AF T x= .c (.val (EQ a)))(hy:AF T y= .c (.val (Bp b))):AS P (AF T) M (.binOp .shr t x y t')=some ((.c (.val (EQ (a>>>b.toNat))))):=
 CG hx hy (AGH a b)
theorem ABp{a b:BitVec 64}(hx:AF T x= .c (.val (Bp a)))(hy:AF T y= .c (.val (Bp b))):AS P (AF T) M (.binOp .eql t x y t')=some ((.c (.val (.bool (a==b))))):=
 CG hx hy (AIY a b)
theorem AC5{a b:BitVec 64}(hx:AF T x= .c (.val (Bp a)))(hy:AF T y= .c (.val (Bp b))):AS P (AF T) M (.binOp .neq t x y t')=some ((.c (.val (.bool (a !=b))))):=
 CG hx hy (AJS a b)
theorem iw{a b:BitVec 8}(hx:AF T x= .c (.val (U8 a)))(hy:AF T y= .c (.val (U8 b))):AS P (AF T) M (.binOp .eql t x y t')=some ((.c (.val (.bool (a==b))))):=
 CG hx hy (AK9 a b)
theorem qn{a b:BitVec 8}(hx:AF T x= .c (.val (U8 a)))(hy:AF T y= .c (.val (U8 b))):AS P (AF T) M (.binOp .neq t x y t')=some ((.c (.val (.bool (a !=b))))):=
 CG hx hy (ALb a b)
theorem A8{a b:Nat}(hx:AF T x= .c (.val (.int .i64 (a:Int))))(hy:AF T y= .c (.val (.int .i64 (b:Int)))):AS P (AF T) M (.binOp .lss t x y t')=some ((.c (.val (.bool (decide (a<b)))))):=
 CG hx hy (ALT)
theorem II{a b:Nat}(hx:AF T x= .c (.val (.int .i64 (a:Int))))(hy:AF T y= .c (.val (.int .i64 (b:Int)))):AS P (AF T) M (.binOp .gtr t x y t')=some ((.c (.val (.bool (decide (b<a)))))):=
 CG hx hy (AKu)
theorem XH{a b:Nat}(hx:AF T x= .c (.val (.int .i64 (a:Int))))(hy:AF T y= .c (.val (.int .i64 (b:Int)))):AS P (AF T) M (.binOp .geq t x y t')=some ((.c (.val (.bool (decide (b≤a)))))):=
 CG hx hy (ALc)
theorem DC{a b:Nat}(hx:AF T x= .c (.val (.int .i64 (a:Int))))(hy:AF T y= .c (.val (.int .i64 (b:Int)))):AS P (AF T) M (.binOp .eql t x y t')=some ((.c (.val (.bool (decide (a=b)))))):=
 CG hx hy (AK2)
theorem Ko{a b:Nat}(hx:AF T x= .c (.val (.int .i64 (a:Int))))(hy:AF T y= .c (.val (.int .i64 (b:Int)))):AS P (AF T) M (.binOp .neq t x y t')=some ((.c (.val (.bool (!decide (a=b)))))):=
 CG hx hy (AKr)
theorem B8{a b:Nat}(hx:AF T x= .c (.val (.int .i64 (a:Int))))(hy:AF T y= .c (.val (.int .i64 (b:Int))))(h:a+b≤9223372036854775807):AS P (AF T) M (.binOp .add t x y t')=some ((.c (.val (.int .i64 ((a+b:Nat):Int))))):=
 CG hx hy (addN h)
theorem E4{a b:Nat}(hx:AF T x= .c (.val (.int .i64 (a:Int))))(hy:AF T y= .c (.val (.int .i64 (b:Int))))(h:b≤a)(h2:a≤9223372036854775807):AS P (AF T) M (.binOp .sub t x y t')=some ((.c (.val (.int .i64 ((a-b:Nat):Int))))):=
 CG hx hy (ALA h h2)
theorem S8{a b:Nat}(hx:AF T x= .c (.val (.int .i64 (a:Int))))(hy:AF T y= .c (.val (.int .i64 (b:Int))))(h:a*b≤9223372036854775807):AS P (AF T) M (.binOp .mul t x y t')=some ((.c (.val (.int .i64 ((a*b:Nat):Int))))):=
 CG hx hy (mulN h)
theorem VD{a b:Nat}(hx:AF T x= .c (.val (.int .i64 (a:Int))))(hy:AF T y= .c (.val (.int .i64 (b:Int))))(h:0<b)(h2:a≤9223372036854775807):AS P (AF T) M (.binOp .quo t x y t')=some ((.c (.val (.int .i64 ((a/b:Nat):Int))))):=
 CG hx hy (ALS h h2)
theorem OU{a b:Nat}(hx:AF T x= .c (.val (.int .i64 (a:Int))))(hy:AF T y= .c (.val (.int .i64 (b:Int))))(h:0<b)(h2:a≤9223372036854775807):AS P (AF T) M (.binOp .rem t x y t')=some ((.c (.val (.int .i64 ((a%b:Nat):Int))))):=
 CG hx hy (ALM h h2)
theorem AFp{a b:Int}(hx:AF T x= .c (.val (.int .i64 a)))(hy:AF T y= .c (.val (.int .i64 b))):AS P (AF T) M (.binOp .lss t x y t')=some ((.c (.val (.bool (decide (a<b)))))):=
 CG hx hy (AKM)
theorem qQ{a b:Int}(hx:AF T x= .c (.val (.int .i64 a)))(hy:AF T y= .c (.val (.int .i64 b))):AS P (AF T) M (.binOp .gtr t x y t')=some ((.c (.val (.bool (decide (b<a)))))):=
 CG hx hy (AKS)
theorem oA{a b:Int}(hx:AF T x= .c (.val (.int .i64 a)))(hy:AF T y= .c (.val (.int .i64 b))):AS P (AF T) M (.binOp .geq t x y t')=some ((.c (.val (.bool (decide (b≤a)))))):=
 CG hx hy (AJO)
theorem jf{a b:Int}(hx:AF T x= .c (.val (.int .i64 a)))(hy:AF T y= .c (.val (.int .i64 b)))(h: -9223372036854775808≤a-b∧a-b≤9223372036854775807):AS P (AF T) M (.binOp .sub t x y t')=some ((.c (.val (.int .i64 (a-b))))):=
 CG hx hy (AGf h)
end
section
variable {t:TypeId}
theorem AJq(x y:BitVec 8):binOp .geq t (U8 x) (U8 y)=(pure (.bool (decide (y.toNat≤x.toNat))):Sem Value):=by
 show (pure (Value.bool (decide ((y.toNat:Int)≤(x.toNat:Int)))):Sem Value)=_
 congr 2;exact decide_eq_decide.2 O_
theorem AHL(x y:BitVec 32):binOp .geq t (EQ x) (EQ y)=(pure (.bool (decide (y.toNat≤x.toNat))):Sem Value):=by
 show (pure (Value.bool (decide ((y.toNat:Int)≤(x.toNat:Int)))):Sem Value)=_
 congr 2;exact decide_eq_decide.2 O_
theorem AHM(x y:BitVec 64):binOp .gtr t (Bp x) (Bp y)=(pure (.bool (decide (y.toNat<x.toNat))):Sem Value):=by
 show (pure (Value.bool (decide ((y.toNat:Int)<(x.toNat:Int)))):Sem Value)=_
 congr 2;exact decide_eq_decide.2 O_
theorem ADi(i:Int):IntKind.u64.wrap i=tn (BitVec.ofInt 64 i):=Gh i
end
section
variable {P:Program} {k N:Nat} {ops:Array Oper} {d:Nat} {ty:TypeId} {pos:String} {af:Array Edge} {l0:List Oper} {T:Nat→AV} {M M':Az} {K:St→Prop} {t t':TypeId} {x y:Operand}
theorem Xl{a b:BitVec 8}(hx:AF T x= .c (.val (U8 a)))(hy:AF T y= .c (.val (U8 b))):AS P (AF T) M (.binOp .geq t x y t')=some (.c (.val (.bool (decide (b.toNat≤a.toNat))))):=CG hx hy (AJq a b)
theorem ABx{a b:BitVec 32}(hx:AF T x= .c (.val (EQ a)))(hy:AF T y= .c (.val (EQ b))):AS P (AF T) M (.binOp .geq t x y t')=some (.c (.val (.bool (decide (b.toNat≤a.toNat))))):=CG hx hy (AHL a b)
theorem rQ{a b:BitVec 64}(hx:AF T x= .c (.val (Bp a)))(hy:AF T y= .c (.val (Bp b))):AS P (AF T) M (.binOp .gtr t x y t')=some (.c (.val (.bool (decide (b.toNat<a.toNat))))):=CG hx hy (AHM a b)
def ZA(l:List Nat):List Int:=l.map Int.ofNat
def ntn(l:List Nat)(i:Nat):Nat:=l.getD i 0
def AJc(l:List Nat)(i v:Nat):List Nat:=l.set i v
theorem lH(l:List Nat):(ZA l).length=l.length:=by simp [ZA]
@[simp] theorem kg(l:List Nat)(i v:Nat):(AJc l i v).length=l.length:=by simp [AJc]
theorem ub(l:List Nat)(i:Nat):DU (ZA l) i=((ntn l i:Nat):Int):=by
 unfold DU ZA ntn
 simp only [List.getD_eq_getElem?_getD,List.getElem?_map]
 cases l[i]?<;>rfl
theorem Qc{a:Operand}{b o:Nat}{own:Bool}{x:List Nat}(ha:AF T a= .c (.ptr b o))(hm:M[b]?=some (.row own (.ai (ZA x))))(hr:BX P t=some false)(ho:o<x.length):AS P (AF T) M (.load t a)=some (.c (.val (.int .i64 ((ntn x o:Nat):Int)))):=by
 rw [Th ha hm hr (by rw [lH];exact ho),ub]
end
section
variable {P:Program} {k N:Nat} {ops:Array Oper} {d:Nat} {ty:TypeId} {pos:String} {af:Array Edge} {l0:List Oper} {T:Nat→AV} {M M':Az} {K:St→Prop} {t t':TypeId}
theorem Oc{x:Operand}{b o n cap sz el:Nat}(hx:AF T x= .c (.sl b o n cap sz))(hu:P.underlying t=some (.slice el)):AS P (AF T) M (.call { callee:= .builtin .len,args:= #[x],argTypes:= #[t] })=some (.c (.val (.int .i64 (n:Int)))):=by
 show Vr P t (AF T x)=_
 rw [hx];simp [Vr,Eh,hu]
theorem aI{x y:Operand}{ts:Array TypeId}{a b:Nat}(hx:AF T x= .c (.val (.int .i64 (a:Int))))(hy:AF T y= .c (.val (.int .i64 (b:Int)))):AS P (AF T) M (.call { callee:= .builtin .min,args:= #[x,y],argTypes:=ts })=some (.c (.val (.int .i64 ((min a b:Nat):Int)))):=by
 show nI [AF T x,AF T y]=_
 rw [hx,hy];simp only [nI,if_true]
 congr 4
 split<;>omega
theorem fq{x:Operand}{n el b o len cap sz:Nat}(hx:AF T x= .c (.sl b o len cap sz))(hu:P.underlying t=some (.array n el))(h1:n≤len)(h0:0<n):AS P (AF T) M (.sliceToArrayPointer t x)=some (.c (.ptr b o)):=by
 show PI P t (AF T x)=_
 rw [hx];simp [PI,hu,h1,h0]
theorem AJX{x:Operand}{lo hi:Option Operand}{n el b o sz l h:Nat}{own:Bool}{y:Arr}(hx:AF T x= .c (.ptr b o))(hu:P.underlying t=some (.array n el))(hs:EM P el=some sz)(hm:M[b]?=some (.row own y))
  (hl:US 0 (lo.map (AF T))=some (l:Int)) (hh:US n (hi.map (AF T))=some (h:Int)) (h1:l≤h) (h2:h≤n) (hf:o+n*sz≤y.size):AS P (AF T) M (.slice t x lo hi none)=some (.c (.sl b (o+l*sz) (h-l) (n-l) sz)):=by
 show Jv P M t (AF T x) (lo.map (AF T)) (hi.map (AF T))=_
 rw [hx]
 simp only [Jv,hu,hs,hl,hh,hm]
 rw [if_pos ⟨by omega,by omega,by omega,hf⟩]
 congr 3<;>omega
theorem IH{x:Operand}{lo hi:Option Operand}{n el b l h len cp:Nat}{own:Bool}{y:Arr}(hx:AF T x= .c (.ptr b 0))(hu:P.underlying t=some (.array n el))(hs:EM P el=some 1)(hm:M[b]?=some (.row own y))
  (hl:US 0 (lo.map (AF T))=some (l:Int)) (hh:US n (hi.map (AF T))=some (h:Int)) (h1:l≤h) (h2:h≤n) (hf:n≤y.size) (hlen:h-l=len) (hcp:n-l=cp):AS P (AF T) M (.slice t x lo hi none)=some (.c (.sl b l len cp 1)):=by
 subst hlen;subst hcp
 rw [AJX hx hu hs hm hl hh h1 h2 O_,Nat.zero_add,Nat.mul_one]
theorem AAd{x:Operand}{lo hi:Option Operand}{el b o sz len cap l h:Nat}(hx:AF T x= .c (.sl b o len cap sz))(hu:P.underlying t=some (.slice el))(hs:EM P el=some sz)
  (hl:US 0 (lo.map (AF T))=some (l:Int)) (hh:US len (hi.map (AF T))=some (h:Int)) (h1:l≤h) (h2:h≤max len cap):AS P (AF T) M (.slice t x lo hi none)=some (.c (.sl b (o+l*sz) (h-l) (cap-l) sz)):=by
 show Jv P M t (AF T x) (lo.map (AF T)) (hi.map (AF T))=_
 rw [hx]
 simp only [Jv,hu,hl,hh]
 rw [if_pos ⟨hs,by omega,by omega,by omega⟩]
 congr 3<;>omega
theorem iA{x:Operand}{lo hi:Option Operand}{el b len cap l h:Nat}(hx:AF T x= .c (.sl b 0 len cap 1))(hu:P.underlying t=some (.slice el))(hs:EM P el=some 1)
  (hl:US 0 (lo.map (AF T))=some (l:Int)) (hh:US len (hi.map (AF T))=some (h:Int)) (h1:l≤h) (h2:h≤max len cap):AS P (AF T) M (.slice t x lo hi none)=some (.c (.sl b l (h-l) (cap-l) 1)):=by
 rw [AAd hx hu hs hl hh h1 h2,Nat.zero_add,Nat.mul_one]
theorem gi{x:Operand}{lo hi:Option Operand}{el b o len cap l h:Nat}(hx:AF T x= .c (.sl b o len cap 1))(hu:P.underlying t=some (.slice el))(hs:EM P el=some 1)
  (hl:US 0 (lo.map (AF T))=some (l:Int)) (hh:US len (hi.map (AF T))=some (h:Int)) (h1:l≤h) (h2:h≤max len cap):AS P (AF T) M (.slice t x lo hi none)=some (.c (.sl b (o+l) (h-l) (cap-l) 1)):=by
 rw [AAd hx hu hs hl hh h1 h2,Nat.mul_one]
theorem AAr{x:Operand}{hi:Option Operand}{el b o sz len cap h:Nat}(hx:AF T x= .c (.sl b o len cap sz))(hu:P.underlying t=some (.slice el))(hs:EM P el=some sz)
  (hh:US len (hi.map (AF T))=some (h:Int)) (h2:h≤max len cap):AS P (AF T) M (.slice t x none hi none)=some (.c (.sl b o h cap sz)):=by
 rw [AAd (lo:=none) (l:=0) hx hu hs rfl hh (Nat.zero_le _) h2];simp
theorem WX{α:Type}{f:Value→Option α}{g:α→Value}(h:∀x,f (g x)=some x):∀l:List α,ZC f (l.map g)=some l
 |[]=>rfl
 |x::l=>by simp [ZC,h,WX h l]
theorem AIG(l:AA 8):CX (l.map U8)= .a8 l:=by unfold CX;rw [WX AEp]
theorem PS{α β:Type}{f:Value→Option α}{g:β→Value}(h:∀x,f (g x)=none):∀l:List β,l≠[]→ZC f (l.map g)=none
 |[],hl=>absurd rfl hl
 |x::l,_=>by simp [ZC,h]
theorem AEG{l:AA 32}(hl:l≠[]):CX (l.map EQ)= .a32 l:=by unfold CX;rw [PS (fun _=>rfl) l hl,WX AAp]
theorem AEf{l:AA 64}(hl:l≠[]):CX (l.map Bp)= .a64 l:=by unfold CX;rw [PS (fun _=>rfl) l hl,PS (fun _=>rfl) l hl,WX lI]
theorem AKw{l:List Int}(hl:l≠[]):CX (l.map (Value.int .i64))= .ai l:=by unfold CX;rw [PS (fun _=>rfl) l hl,PS (fun _=>rfl) l hl,PS (fun _=>rfl) l hl,WX (f:=i?) (g:=Value.int .i64) (fun _=>rfl)]
theorem AI1{el sz by':Nat}(hu:P.underlying t=some (.slice el))(he:CH P el=some (sz,by')):DK P (AF T) M (.buildSlice t 0 #[])=some (.c .esl,M++[]):=by
 show Dj P M t 0 []=_
 simp [Dj,hu,he]
theorem ACl{el by' len n:Nat}{ps:Array (Nat×Operand)}{vs:List Value}(hu:P.underlying t=some (.slice el))(he:CH P el=some (1,by'))(hd:GG 0 (ps.toList.map fun p=>(p.1,AF T p.2))=some vs)(hl:ps.toList.length=len)(h0:¬len=0)(h1:len≤16777216)(hn:M.length=n):
  DK P (AF T) M (.buildSlice t len ps)=some (.c (.sl n 0 len len 1),M++[.row true (CX vs)]):=by
 show Dj P M t len (ps.toList.map fun p=>(p.1,AF T p.2))=_
 subst hn
 simp only [Dj,hu,he,Nat.mul_one]
 rw [if_neg h0,if_pos h1,if_pos ⟨trivial,by simpa using hl⟩,hd]
theorem fN{l:AA 8}{el by' len n:Nat}{ps:Array (Nat×Operand)}(hu:P.underlying t=some (.slice el))(he:CH P el=some (1,by'))(hd:GG 0 (ps.toList.map fun p=>(p.1,AF T p.2))=some (l.map U8))(hl:ps.toList.length=len)(h0:¬len=0)(h1:len≤16777216)(hn:M.length=n):
  DK P (AF T) M (.buildSlice t len ps)=some (.c (.sl n 0 len len 1),M++[.row true (.a8 l)]):=by
 have hn0:l≠[]:=by
  intro e;subst e
  have:=E1 hd
  have h9:ps.toList.length=ps.size:=by simp
  simp at this
  omega
 rw [ACl hu he hd hl h0 h1 hn,AIG l]
theorem AF1{l:AA 8}{n el:Nat}{ps:Array (Nat×Operand)}(hz:(P.info? t).bind (fun i=>i.zero.map (·.cells.size))=some n)(hu:P.underlying t=some (.array n el))(hs:EM P el=some 1)(hd:GG 0 (ps.toList.map fun p=>(p.1,AF T p.2))=some (l.map U8))(hl:ps.toList.length=n)(h0:¬n=0):
  AS P (AF T) M (.build t ps)=some (.agg (.a8 l)):=by
 show CJ P t (ps.toList.map fun p=>(p.1,AF T p.2))=_
 obtain ⟨it,hi,hz2⟩:=Option.bind_eq_some_iff.1 hz
 obtain ⟨z,hz3,hz4⟩:=Option.map_eq_some_iff.1 hz2
 obtain ⟨ie,hie,h1⟩:=Option.map_eq_some_iff.1 hs
 have hn0:l≠[]:=by
  intro e;subst e
  have:=E1 hd
  have h9:ps.toList.length=ps.size:=by simp
  simp at this
  omega
 simp only [CJ,hi,hu,hz3,hie]
 rw [if_pos ⟨h1,by simpa using hl,hz4⟩,hd]
 simp only [AIG l]
theorem AJp{x i:Operand}{n el j:Nat}{kd:IntKind}{y:AA 8}(hx:AF T x= .agg (.a8 y))(hi:AF T i= .c (.val (.int kd (j:Int))))(hu:P.underlying t=some (.array n el))(hs:EM P el=some 1)(hr:BX P el=some false)(h0:j<n)(hl:j<y.length):
  AS P (AF T) M (.index t x i)=some (.c (.val (U8 (nth y j)))):=by
 show fP P t (AF T x) (AF T i)=_
 rw [hx,hi]
 have h1:(0:Int)≤(j:Int)∧(j:Int)<(n:Int):=by omega
 simp only [fP,hu,HD,hs,h1,and_self,if_true,Int.toNat_natCast,Nat.mul_one,G4,hr]
 rw [if_pos (show j<Arr.size (.a8 y) from hl)]
 rfl
theorem sL{x y:Operand}{el by' a b n:Nat}{ka kb:IntKind}(hu:P.underlying t=some (.slice el))(hx:AF T x= .c (.val (.int ka (a:Int))))(hy:AF T y= .c (.val (.int kb (b:Int))))(he:CH P el=some (1,by'))(hrep:∀n,Lx P el n=some (.a8 (Ac n)))(h1:a≤b)(h2:b*by'≤281474976710656)(h3:b≤9223372036854775807)(hn:M.length=n):
  DK P (AF T) M (.makeSlice t x y)=some (.c (.sl n 0 a b 1),M++[.row true (.a8 (Ac b))]):=by
 show Hm P M t (AF T x) (AF T y)=_
 subst hn
 rw [hx,hy]
 simp only [Hm,hu,HD,he]
 rw [if_pos ⟨by omega,by omega,by rw [←Int.natCast_mul];omega,by omega⟩]
 simp [hrep]
theorem sD{s x:Operand}{el by' b n c m:Nat}{own:Bool}{r:AA 8}{e2:TypeId}(hs:AF T s= .c .esl)(hx:AF T x= .c (.sl b 0 n c 1))(hm:M[b]?=some (.row own (.a8 r)))(hu:P.underlying t=some (.slice el))(hu2:P.underlying t'=some (.slice e2))(he:CH P el=some (1,by'))(hl:r.length=n)(hb:n*by'≤140737488355328∧n≤9223372036854775807)(hn:M.length=m):
  DK P (AF T) M (.call { callee:= .builtin .append,args:= #[s,x],argTypes:= #[t,t'] })=some (.c (.sl m 0 n n 1),M++[.row true (.a8 r)]):=by
 show B3 P M t t' (AF T s) (AF T x)=_
 subst hn
 rw [hs,hx]
 have hz:Arr.size (.a8 r)=n:=hl
 simp [B3,hu,HE,hu2,he,G5,hm,hz,H2,Arr.one,hb.1,hb.2]
theorem yx{s x:Operand}{el by' b o n c m:Nat}{own:Bool}{r:AA 8}{e2:TypeId}(hs:AF T s= .c .esl)(hx:AF T x= .c (.sl b o n c 1))(hm:M[b]?=some (.row own (.a8 r)))(hu:P.underlying t=some (.slice el))(hu2:P.underlying t'=some (.slice e2))(he:CH P el=some (1,by'))(hl:o+n≤r.length)(hb:n*by'≤140737488355328∧n≤9223372036854775807)(hn:M.length=m):
  DK P (AF T) M (.call { callee:= .builtin .append,args:= #[s,x],argTypes:= #[t,t'] })=some (.c (.sl m 0 n n 1),M++[.row true (.a8 (cut r o n))]):=by
 show B3 P M t t' (AF T s) (AF T x)=_
 subst hn
 rw [hs,hx]
 have hw:H2 (.a8 r) o (n*1)= .a8 (cut r o n):=by
  unfold H2
  split
  ·rename_i h
   have h2:r.length=n:=by have:=h.2;simp [Arr.size] at this;omega
   rw [h.1];subst h2;simp [cut]
  ·rw [Nat.mul_one];rfl
 have hsz:o+n*1≤Arr.size (.a8 r):=by simp [Arr.size];exact hl
 have hsrc:G5 M 1 (.c (.sl b o n c 1))=some (n,.a8 (cut r o n)):=by
  simp only [G5,hm]
  rw [if_pos ⟨trivial,hsz⟩,hw]
 simp [B3,hu,HE,hu2,he,hsrc,Arr.one,hb.1,hb.2]
theorem ABf{s x:Operand}{el by' b n c m:Nat}{own:Bool}{r:AA 8}{e2:TypeId}(hs:AF T s= .c .nsl)(hx:AF T x= .c (.sl b 0 n c 1))(hm:M[b]?=some (.row own (.a8 r)))(hu:P.underlying t=some (.slice el))(hu2:P.underlying t'=some (.slice e2))(he:CH P el=some (1,by'))(hl:r.length=n)(hb:n*by'≤140737488355328∧n≤9223372036854775807)(hn:M.length=m):
  DK P (AF T) M (.call { callee:= .builtin .append,args:= #[s,x],argTypes:= #[t,t'] })=some (.c (.sl m 0 n n 1),M++[.row true (.a8 r)]):=by
 show B3 P M t t' (AF T s) (AF T x)=_
 subst hn
 rw [hs,hx]
 have hz:Arr.size (.a8 r)=n:=hl
 simp [B3,hu,HE,hu2,he,G5,hm,hz,H2,Arr.one,hb.1,hb.2]
theorem nC{s x:Operand}{el by' b o n c m:Nat}{own:Bool}{r:AA 8}{e2:TypeId}(hs:AF T s= .c .nsl)(hx:AF T x= .c (.sl b o n c 1))(hm:M[b]?=some (.row own (.a8 r)))(hu:P.underlying t=some (.slice el))(hu2:P.underlying t'=some (.slice e2))(he:CH P el=some (1,by'))(hl:o+n≤r.length)(hb:n*by'≤140737488355328∧n≤9223372036854775807)(hn:M.length=m):
  DK P (AF T) M (.call { callee:= .builtin .append,args:= #[s,x],argTypes:= #[t,t'] })=some (.c (.sl m 0 n n 1),M++[.row true (.a8 (cut r o n))]):=by
 show B3 P M t t' (AF T s) (AF T x)=_
 subst hn
 rw [hs,hx]
 have hw:H2 (.a8 r) o (n*1)= .a8 (cut r o n):=by
  unfold H2
  split
  ·rename_i h
   have h2:r.length=n:=by have:=h.2;simp [Arr.size] at this;omega
   rw [h.1];subst h2;simp [cut]
  ·rw [Nat.mul_one];rfl
 have hsz:o+n*1≤Arr.size (.a8 r):=by simp [Arr.size];exact hl
 have hsrc:G5 M 1 (.c (.sl b o n c 1))=some (n,.a8 (cut r o n)):=by
  simp only [G5,hm]
  rw [if_pos ⟨trivial,hsz⟩,hw]
 simp [B3,hu,HE,hu2,he,hsrc,Arr.one,hb.1,hb.2]
theorem AEs{s x:Operand}{el by' b0 len cap b n c m:Nat}{own:Bool}{u r:AA 8}{e2:TypeId}(hs:AF T s= .c (.sl b0 0 len cap 1))(hms:M[b0]?=some (.row true (.a8 u)))(hx:AF T x= .c (.sl b 0 n c 1))(hm:M[b]?=some (.row own (.a8 r)))(hu:P.underlying t=some (.slice el))(hu2:P.underlying t'=some (.slice e2))(he:CH P el=some (1,by'))
  (hlu:u.length=len) (hl:r.length=n) (hb:(len+n)*by'≤140737488355328∧len+n≤9223372036854775807∧n*by'≤140737488355328) (hn:M.length=m) (hM:M.set b0 .dead++[.row true (.a8 (u++r))]=M') (hd:decide (d<N)=true) (hk:WO P k ops l0 ⟨N,upd T d (.c (.sl m 0 (len+n) (len+n) 1)),M'⟩ K):
  WO P k ops (⟨some d,.call { callee:= .builtin .append,args:= #[s,x],argTypes:= #[t,t'] },ty,pos,af,none⟩::l0) ⟨N,T,M⟩ K:=
 UZ (by
  show B3 P M t t' (AF T s) (AF T x)=_
  subst hn;subst hM
  rw [hs,hx]
  have hz:Arr.size (.a8 r)=n:=hl
  have hz2:Arr.size (.a8 u)=len:=hlu
  have hn9:n≤9223372036854775807:=by omega
  simp [B3,hu,HE,hu2,he,G5,hm,hms,hz,hz2,H2,Arr.one,Arr.app,hb.1,hb.2.1,hb.2.2,hn9]) hd hk
theorem AC2{s x:Operand}{el by' b0 len cap b o n c m:Nat}{own:Bool}{u r:AA 8}{e2:TypeId}(hs:AF T s= .c (.sl b0 0 len cap 1))(hms:M[b0]?=some (.row true (.a8 u)))(hx:AF T x= .c (.sl b o n c 1))(hm:M[b]?=some (.row own (.a8 r)))(hu:P.underlying t=some (.slice el))(hu2:P.underlying t'=some (.slice e2))(he:CH P el=some (1,by'))
  (hlu:u.length=len) (hl:o+n≤r.length) (hb:(len+n)*by'≤140737488355328∧len+n≤9223372036854775807∧n*by'≤140737488355328) (hn:M.length=m) (hM:M.set b0 .dead++[.row true (.a8 (u++cut r o n))]=M') (hd:decide (d<N)=true) (hk:WO P k ops l0 ⟨N,upd T d (.c (.sl m 0 (len+n) (len+n) 1)),M'⟩ K):
  WO P k ops (⟨some d,.call { callee:= .builtin .append,args:= #[s,x],argTypes:= #[t,t'] },ty,pos,af,none⟩::l0) ⟨N,T,M⟩ K:=
 UZ (by
  show B3 P M t t' (AF T s) (AF T x)=_
  subst hn;subst hM
  rw [hs,hx]
  have hw:H2 (.a8 r) o (n*1)= .a8 (cut r o n):=by
   unfold H2
   split
   ·rename_i h
    have h2:r.length=n:=by have:=h.2;simp [Arr.size] at this;omega
    rw [h.1];subst h2;simp [cut]
   ·rw [Nat.mul_one];rfl
  have hsz:o+n*1≤Arr.size (.a8 r):=by simp [Arr.size];exact hl
  have hsrc:G5 M 1 (.c (.sl b o n c 1))=some (n,.a8 (cut r o n)):=by
   simp only [G5,hm]
   rw [if_pos ⟨trivial,hsz⟩,hw]
  have hz2:Arr.size (.a8 u)=len:=hlu
  have hn9:n≤9223372036854775807:=by omega
  simp [B3,hu,HE,hu2,he,hsrc,hms,hz2,H2,Arr.one,Arr.app,hb.1,hb.2.1,hb.2.2,hn9]) hd hk
theorem AFs{l:AA 32}{el by' len n:Nat}{ps:Array (Nat×Operand)}(hu:P.underlying t=some (.slice el))(he:CH P el=some (1,by'))(hd:GG 0 (ps.toList.map fun p=>(p.1,AF T p.2))=some (l.map EQ))(hl:ps.toList.length=len)(h0:¬len=0)(h1:len≤16777216)(hn:M.length=n):
  DK P (AF T) M (.buildSlice t len ps)=some (.c (.sl n 0 len len 1),M++[.row true (.a32 l)]):=by
 have hn0:l≠[]:=by
  intro e;subst e
  have:=E1 hd
  have h9:ps.toList.length=ps.size:=by simp
  simp at this
  omega
 rw [ACl hu he hd hl h0 h1 hn,AEG hn0]
theorem Zb{l:AA 32}{n el:Nat}{ps:Array (Nat×Operand)}(hz:(P.info? t).bind (fun i=>i.zero.map (·.cells.size))=some n)(hu:P.underlying t=some (.array n el))(hs:EM P el=some 1)(hd:GG 0 (ps.toList.map fun p=>(p.1,AF T p.2))=some (l.map EQ))(hl:ps.toList.length=n)(h0:¬n=0):
  AS P (AF T) M (.build t ps)=some (.agg (.a32 l)):=by
 show CJ P t (ps.toList.map fun p=>(p.1,AF T p.2))=_
 obtain ⟨it,hi,hz2⟩:=Option.bind_eq_some_iff.1 hz
 obtain ⟨z,hz3,hz4⟩:=Option.map_eq_some_iff.1 hz2
 obtain ⟨ie,hie,h1⟩:=Option.map_eq_some_iff.1 hs
 have hn0:l≠[]:=by
  intro e;subst e
  have:=E1 hd
  have h9:ps.toList.length=ps.size:=by simp
  simp at this
  omega
 simp only [CJ,hi,hu,hz3,hie]
 rw [if_pos ⟨h1,by simpa using hl,hz4⟩,hd]
 simp only [AEG hn0]
theorem AFZ{l:AA 64}{el by' len n:Nat}{ps:Array (Nat×Operand)}(hu:P.underlying t=some (.slice el))(he:CH P el=some (1,by'))(hd:GG 0 (ps.toList.map fun p=>(p.1,AF T p.2))=some (l.map Bp))(hl:ps.toList.length=len)(h0:¬len=0)(h1:len≤16777216)(hn:M.length=n):
  DK P (AF T) M (.buildSlice t len ps)=some (.c (.sl n 0 len len 1),M++[.row true (.a64 l)]):=by
 have hn0:l≠[]:=by
  intro e;subst e
  have:=E1 hd
  have h9:ps.toList.length=ps.size:=by simp
  simp at this
  omega
 rw [ACl hu he hd hl h0 h1 hn,AEf hn0]
theorem JX{l:AA 64}{n el:Nat}{ps:Array (Nat×Operand)}(hz:(P.info? t).bind (fun i=>i.zero.map (·.cells.size))=some n)(hu:P.underlying t=some (.array n el))(hs:EM P el=some 1)(hd:GG 0 (ps.toList.map fun p=>(p.1,AF T p.2))=some (l.map Bp))(hl:ps.toList.length=n)(h0:¬n=0):
  AS P (AF T) M (.build t ps)=some (.agg (.a64 l)):=by
 show CJ P t (ps.toList.map fun p=>(p.1,AF T p.2))=_
 obtain ⟨it,hi,hz2⟩:=Option.bind_eq_some_iff.1 hz
 obtain ⟨z,hz3,hz4⟩:=Option.map_eq_some_iff.1 hz2
 obtain ⟨ie,hie,h1⟩:=Option.map_eq_some_iff.1 hs
 have hn0:l≠[]:=by
  intro e;subst e
  have:=E1 hd
  have h9:ps.toList.length=ps.size:=by simp
  simp at this
  omega
 simp only [CJ,hi,hu,hz3,hie]
 rw [if_pos ⟨h1,by simpa using hl,hz4⟩,hd]
 simp only [AEf hn0]
theorem AE2{x i:Operand}{n el j:Nat}{kd:IntKind}{y:AA 64}(hx:AF T x= .agg (.a64 y))(hi:AF T i= .c (.val (.int kd (j:Int))))(hu:P.underlying t=some (.array n el))(hs:EM P el=some 1)(hr:BX P el=some false)(h0:j<n)(hl:j<y.length):
  AS P (AF T) M (.index t x i)=some (.c (.val (Bp (nth y j)))):=by
 show fP P t (AF T x) (AF T i)=_
 rw [hx,hi]
 have h1:(0:Int)≤(j:Int)∧(j:Int)<(n:Int):=by omega
 simp only [fP,hu,HD,hs,h1,and_self,if_true,Int.toNat_natCast,Nat.mul_one,G4,hr]
 rw [if_pos (show j<Arr.size (.a64 y) from hl)]
 rfl
theorem fX{l:List (Int)}{el by' len n:Nat}{ps:Array (Nat×Operand)}(hu:P.underlying t=some (.slice el))(he:CH P el=some (1,by'))(hd:GG 0 (ps.toList.map fun p=>(p.1,AF T p.2))=some (l.map (Value.int .i64)))(hl:ps.toList.length=len)(h0:¬len=0)(h1:len≤16777216)(hn:M.length=n):
  DK P (AF T) M (.buildSlice t len ps)=some (.c (.sl n 0 len len 1),M++[.row true (.ai l)]):=by
 have hn0:l≠[]:=by
  intro e;subst e
  have:=E1 hd
  have h9:ps.toList.length=ps.size:=by simp
  simp at this
  omega
 rw [ACl hu he hd hl h0 h1 hn,AKw hn0]
theorem AF2{s x:Operand}{el by' b0 len cap b n c m:Nat}{own:Bool}{u r:List (Int)}{e2:TypeId}(hs:AF T s= .c (.sl b0 0 len cap 1))(hms:M[b0]?=some (.row true (.ai u)))(hx:AF T x= .c (.sl b 0 n c 1))(hm:M[b]?=some (.row own (.ai r)))(hu:P.underlying t=some (.slice el))(hu2:P.underlying t'=some (.slice e2))(he:CH P el=some (1,by'))
  (hlu:u.length=len) (hl:r.length=n) (hb:(len+n)*by'≤140737488355328∧len+n≤9223372036854775807∧n*by'≤140737488355328) (hn:M.length=m) (hM:M.set b0 .dead++[.row true (.ai (u++r))]=M') (hd:decide (d<N)=true) (hk:WO P k ops l0 ⟨N,upd T d (.c (.sl m 0 (len+n) (len+n) 1)),M'⟩ K):
  WO P k ops (⟨some d,.call { callee:= .builtin .append,args:= #[s,x],argTypes:= #[t,t'] },ty,pos,af,none⟩::l0) ⟨N,T,M⟩ K:=
 UZ (by
  show B3 P M t t' (AF T s) (AF T x)=_
  subst hn;subst hM
  rw [hs,hx]
  have hz:Arr.size (.ai r)=n:=hl
  have hz2:Arr.size (.ai u)=len:=hlu
  have hn9:n≤9223372036854775807:=by omega
  simp [B3,hu,HE,hu2,he,G5,hm,hms,hz,hz2,H2,Arr.one,Arr.app,hb.1,hb.2.1,hb.2.2,hn9]) hd hk
theorem WV{c a b:Operand}{p:Bool}{v:AV}(hc:AF T c= .c (.val (.bool p)))(hp:p=true)(ha:AF T a=v):AS P (AF T) M (.pick c a b)=some v:=by
 subst hp
 simp only [AS,hc,if_true,ha]
theorem gm{c a b:Operand}{p:Bool}{v:AV}(hc:AF T c= .c (.val (.bool p)))(hp:p=false)(hb:AF T b=v):AS P (AF T) M (.pick c a b)=some v:=by
 subst hp
 simp only [AS,hc,hb]
 rfl
theorem yS{x:Operand}{e b o len cap sz m:Nat}{y:AA 8}{u:Option TypeDesc}(hx:AF T x= .c (.sl b o len cap sz))(ht:P.underlying t=some (.slice e))(hu:P.underlying e=u)(he:u=some (.int .u8))(hm:M[b]?=some (.row true (.a8 y)))(h0:0<len)(hn:M.length=m)(hM:M.set b .dead++[.row false (.a8 y)]=M')(hd:decide (d<N)=true)
  (hk:WO P k ops l0 ⟨N,upd T d (.c (.sl m o len cap sz)),M'⟩ K):WO P k ops (⟨some d,.convert t t x,ty,pos,af,none⟩::l0) ⟨N,T,M⟩ K:=
 UZ (by
  subst hn;subst hM;subst he
  show ZM P M t t (AF T x)=_
  rw [hx]
  simp [ZM,Q1,jc,ht,hu,hm,h0,Arr.isMap]) hd hk
theorem fR{x:Operand}{a:BitVec 64}(hx:AF T x= .c (.val (Bp a))):AS P (AF T) M (.unOp .xor t x)=some (.c (.val (Bp (~~~a)))):=by
 simp only [AS,hx,AIC];rfl
theorem eu{x:Operand}{a:BitVec 32}(hx:AF T x= .c (.val (EQ a))):AS P (AF T) M (.unOp .xor t x)=some (.c (.val (EQ (~~~a)))):=by
 simp only [AS,hx,AJP];rfl
theorem Jq{x:Operand}{a:Bool}(hx:AF T x= .c (.val (.bool a))):AS P (AF T) M (.unOp .not t x)=some (.c (.val (.bool (!a)))):=by
 simp only [AS,hx];rfl
theorem xw{x y:Operand}{a b:Bool}(hx:AF T x= .c (.val (.bool a)))(hy:AF T y= .c (.val (.bool b)))(hu:P.underlying t=some .bool):AS P (AF T) M (.binOp .neq t x y t')=some (.c (.val (.bool (!(a==b))))):=by
 show L7 P .neq t x y (AF T x) (AF T y)=_
 rw [hx,hy];simp [L7,WN,hu]
theorem AFI{x y:Operand}{a b:Int}(hx:AF T x= .c (.val (.int .i64 a)))(hy:AF T y= .c (.val (.int .i64 b))):AS P (AF T) M (.binOp .eql t x y t')=some (.c (.val (.bool (a==b)))):=CG hx hy AJ6
theorem AF4{x y:Operand}{a b:Int}(hx:AF T x= .c (.val (.int .i64 a)))(hy:AF T y= .c (.val (.int .i64 b))):AS P (AF T) M (.binOp .neq t x y t')=some (.c (.val (.bool (a !=b)))):=CG hx hy AIm
theorem AHe{f:FuncId}{ops2:Array Operand}{ts:Array TypeId}{args:List AV}{mc mc':Az}{bs:List Nat}{v v':AV}{news:Az}(h:Ev P (.call f args mc) (.val v mc'))(hf:(P.funcs[f]?).any (fun fn=>fn.body.isSome&& !(fn.name== "runtime.NumGoroutine"))=true)
  (hin:canon 0 (ops2.toList.map (AF T)) M=some (args,mc,bs)) (hM:EE bs mc' (F0 bs M.length) 0 M=M) (hN:(mc'.drop bs.length).map (Row.ren (F0 bs M.length))=news) (hv:v.ren (F0 bs M.length)=v'):
  Ev P (.op (.call { callee:= .value (.func f),args:=ops2,argTypes:=ts }) (AF T) M) (.val v' (M++news)):=by
 have:=Ev.fn (c:={ callee:= .value (.func f),args:=ops2,argTypes:=ts }) (e:=AF T) f rfl rfl hf hin h
 simp only [H0,hM,hN,hv] at this
 exact this
theorem Ah{f:FuncId}{ops2:Array Operand}{ts:Array TypeId}{args:List AV}{mc mc':Az}{bs:List Nat}{v v':AV}{news:Az}(h:Ev P (.call f args mc) (.val v mc'))(hf:(P.funcs[f]?).any (fun fn=>fn.body.isSome&& !(fn.name== "runtime.NumGoroutine"))=true)
  (hin:canon 0 (ops2.toList.map (AF T)) (Bv M)=some (args,mc,bs)) (hM:EE bs mc' (F0 bs (Bv M).length) 0 (Bv M)=Bv M) (hN:(mc'.drop bs.length).map (Row.ren (F0 bs (Bv M).length))=news) (hv:v.ren (F0 bs (Bv M).length)=v'):
  Ev P (.op (.call { callee:= .value (.func f),args:=ops2,argTypes:=ts }) (AF T) M) (.val v' (M++news)):=
 .ro (AHe h hf hin hM hN hv)
theorem MB{f:FuncId}{ops2:Array Operand}{ts:Array TypeId}{args:List AV}{mc mc':Az}{bs:List Nat}{v v':AV}{news M1:Az}(h:Ev P (.call f args mc) (.val v mc'))(hf:(P.funcs[f]?).any (fun fn=>fn.body.isSome&& !(fn.name== "runtime.NumGoroutine"))=true)
  (hin:canon 0 (ops2.toList.map (AF T)) M=some (args,mc,bs)) (hM:EE bs mc' (F0 bs M.length) 0 M=M1) (hN:(mc'.drop bs.length).map (Row.ren (F0 bs M.length))=news) (hv:v.ren (F0 bs M.length)=v') (hA:M1++news=M'):
  Ev P (.op (.call { callee:= .value (.func f),args:=ops2,argTypes:=ts }) (AF T) M) (.val v' M'):=by
 have:=Ev.fn (c:={ callee:= .value (.func f),args:=ops2,argTypes:=ts }) (e:=AF T) f rfl rfl hf hin h
 simp only [H0,hM,hN,hv,hA] at this
 exact this
theorem qt{f:FuncId}{x y z:Operand}{ts:Array TypeId}{a b:BitVec 64}{cv:Value}{c:BitVec 64}(hf:cN P f add64Entry)(hx:AF T x= .c (.val (Bp a)))(hy:AF T y= .c (.val (Bp b)))(hz:AF T z= .c (.val cv))(hcv:cv=Bp c)(hc:c.toNat≤1):
  Ev P (.op (.call { callee:= .value (.func f),args:= #[x,y,z],argTypes:=ts }) (AF T) M) (.val (yb a b c) (M++[])):=by
 rw [List.append_nil]
 refine Ev.add64 f rfl rfl hf ?_;show kh yb [AF T x,AF T y,AF T z]=_
 rw [hx,hy,hz,hcv]
 simp [kh,hc]
theorem zu{f:FuncId}{x y z:Operand}{ts:Array TypeId}{a b:BitVec 64}{cv:Value}{c:BitVec 64}(hf:cN P f sub64Entry)(hx:AF T x= .c (.val (Bp a)))(hy:AF T y= .c (.val (Bp b)))(hz:AF T z= .c (.val cv))(hcv:cv=Bp c)(hc:c.toNat≤1):
  Ev P (.op (.call { callee:= .value (.func f),args:= #[x,y,z],argTypes:=ts }) (AF T) M) (.val (AAP a b c) (M++[])):=by
 rw [List.append_nil]
 refine Ev.sub64 f rfl rfl hf ?_;show kh AAP [AF T x,AF T y,AF T z]=_
 rw [hx,hy,hz,hcv]
 simp [kh,hc]
end
theorem IE{α:Type}{l:List α}{n:Nat}(h:l.length=n):cut l 0 n=l:=by subst h;simp [cut]
theorem iy{ι:Emb}{M:Az}{w:World}(hR:R ι M w){b:Nat}{l:Loc}(h:ι b=some l):b<M.length:=by
 rcases Nat.lt_or_ge b M.length with h1 | h1
 ·exact h1
 ·rw [hR.dom b h1] at h;cases h
theorem U2{M:Az}{x:Row}{b:Nat}(h:b<M.length):(M++[x])[b]?=M[b]?:=List.getElem?_append_left h
theorem ke{k:Nat}{ι:Emb}{M:Az}{w:World}{x:Arr}(hk:k≤M.length)(hR:R ι M w):Step k ι M w ι (M++[.row true x]) w:=by
 have lt:=fun {b:Nat} {l:Loc} (h:ι b=some l)=>iy hR h
 refine Step.make hR (fun b hb=>hR.dom b (by simp at hb;omega)) (fun b l own y h1 h2=>?_) (fun b b' l l' own own' y y' hne h1 h2 h3 h4 ho=>?_) ⟨rfl,rfl,rfl,Nat.le_refl _,fun _ _ _=>rfl,?_⟩ rfl (fun _ _=>rfl) (by simp;omega) (fun b y hb h=>?_) (fun b own y hb h=>?_) (fun b l own y hb h1 h2=>?_)
 ·rw [U2 (lt h1)] at h2;exact hR.rows b l own y h1 h2
 ·rw [U2 (lt h1)] at h3;rw [U2 (lt h2)] at h4;exact hR.inj b b' l l' own own' y y' hne h1 h2 h3 h4 ho
 ·rintro c ⟨b,l,y,h1,h2,h3⟩
  rw [U2 (lt h1)] at h2;exact .inr ⟨b,l,y,h1,h2,h3⟩
 ·rw [U2 O_];exact h
 ·rw [U2 O_] at h;exact ⟨y,h⟩
 ·rw [U2 (lt h1)] at h2;exact .inr (.inr ⟨b,l,own,y,hb,h1,h2,rfl⟩)
def Qf(n b:Nat)(ι:Emb):Emb:=⟨fun i=>if i=n then ι b else ι i,ι.tx⟩
theorem sd{ι:Emb}{M:Az}{w:World}(hR:R ι M w)(b:Nat):ι.le (Qf M.length b ι):=by
 refine ⟨fun i l h=>?_,fun _ _ _ h=>h⟩
 have:=iy hR h
 unfold Qf
 dsimp only
 rw [if_neg O_];exact h
theorem wU{k:Nat}{ι:Emb}{M:Az}{w:World}{b:Nat}{x:Arr}(hk:k≤M.length)(hR:R ι M w)(hb:M[b]?=some (.row true x)):Step k ι M w (Qf M.length b ι) (M.set b .dead++[.row true x]) w:=by
 have hbl:b<M.length:=by
  rcases Nat.lt_or_ge b M.length with h1 | h1
  ·exact h1
  ·rw [List.getElem?_eq_none h1] at hb;cases hb
 have e1:∀ {i:Nat},i≠M.length→Qf M.length b ι i=ι i:=fun h=>if_neg h
 have e2:Qf M.length b ι M.length=ι b:=if_pos rfl
 have src:∀ {i:Nat} {own:Bool} {y:Arr},(M.set b .dead++[.row true x])[i]?=some (.row own y)→(i=M.length∧own=true∧y=x)∨(i<M.length∧i≠b∧M[i]?=some (.row own y)):=by
  intro i own y h
  rcases Nat.lt_trichotomy i M.length with h1 | h1 | h1
  ·right
   rw [List.getElem?_append_left (by simp;exact h1),List.getElem?_set] at h
   by_cases e:b=i
   ·subst e;simp [h1] at h
   ·rw [if_neg e] at h;exact ⟨h1,fun h=>e h.symm,h⟩
  ·left
   subst h1
   rw [List.getElem?_append_right (by simp)] at h
   simp only [List.length_set,Nat.sub_self,List.getElem?_cons_zero,Option.some.injEq,Row.row.injEq] at h
   exact ⟨rfl,h.1.symm,h.2.symm⟩
  ·rw [List.getElem?_eq_none (by simp;omega)] at h;cases h
 have org:∀ {i:Nat} {l:Loc} {own:Bool} {y:Arr},Qf M.length b ι i=some l→(M.set b .dead++[.row true x])[i]?=some (.row own y)→ ∃i0,ι i0=some l∧M[i0]?=some (.row own y)∧(i0=i∨(i0=b∧i=M.length)):=by
  intro i l own y h1 h2
  rcases src h2 with ⟨rfl,rfl,rfl⟩ | ⟨h3,h4,h5⟩
  ·rw [e2] at h1;exact ⟨b,h1,hb,.inr ⟨rfl,rfl⟩⟩
  ·rw [e1 O_] at h1;exact ⟨i,h1,h5,.inl rfl⟩
 refine Step.make hR (fun i hi=>?_) (fun i l own y h1 h2=>?_) (fun i i' l l' own own' y y' hne h1 h2 h3 h4 ho=>?_) ⟨rfl,rfl,rfl,Nat.le_refl _,fun _ _ _=>rfl,?_⟩ rfl (fun i hi=>e1 O_) (by simp;omega) (fun i y hi h=>?_) (fun i own y hi h=>?_) (fun i l own y hi h1 h2=>?_)
 ·simp at hi
  rw [e1 O_];exact hR.dom i O_
 ·obtain ⟨i0,h3,h4,_⟩:=org h1 h2
  exact (hR.rows i0 l own y h3 h4).mono (sd hR b)
 ·obtain ⟨j,k1,k2,k3⟩:=org h1 h3
  obtain ⟨j',g1,g2,g3⟩:=org h2 h4
  have hs:=src h3
  have hs':=src h4
  refine hR.inj j j' l l' own own' y y' (fun e=>?_) k1 g1 k2 g2 ho
  subst e
  rcases k3 with k3 | k3<;>rcases g3 with g3 | g3
  ·exact hne O_
  ·rcases hs with hs | hs
   ·have:=iy hR k1;omega
   ·omega
  ·rcases hs' with hs' | hs'
   ·have:=iy hR k1;omega
   ·omega
  ·omega
 ·rintro c ⟨i,l,y,h1,h2,h3⟩
  obtain ⟨i0,h4,h5,_⟩:=org h1 h2
  exact .inr ⟨i0,l,y,h4,h5,h3⟩
 ·rw [List.getElem?_append_left (by simp;omega),List.getElem?_set]
  by_cases e:b=i
  ·subst e;rw [hb] at h;cases h
  ·rw [if_neg e];exact h
 ·rcases src h with ⟨h1,_⟩ | ⟨_,_,h1⟩
  ·omega
  ·exact ⟨y,h1⟩
 ·obtain ⟨i0,h3,h4,h5⟩:=org h1 h2
  rcases h5 with rfl | ⟨rfl,rfl⟩
  ·exact .inr (.inr ⟨i0,l,own,y,hi,h3,h4,rfl⟩)
  ·rcases src h2 with ⟨_,rfl,rfl⟩ | ⟨h6,_⟩
   ·exact .inr (.inl ⟨i0,l,y,h3,hb,rfl⟩)
   ·omega
section
variable {P:Program} {k N n:Nat} {c:Code} {T:Nat→AV} {M M':Az} {Φ:Ex→St→Prop}
theorem Rj{ι:Emb}{s s':St}{a:Act}(d:Nat){v:AV}(h:EZ ι s a)(hn:s'.n=s.n)(ht:s'.t=upd s.t d v)(hv:∀u,(s.t d).rel ι u→v.rel ι u):EZ ι s' a:=by
 refine ⟨h.size.trans hn.symm,fun t=>?_⟩
 rw [ht]
 unfold upd
 split
 ·rename_i e;subst e;exact hv _ (h.rel t)
 ·exact h.rel t
theorem EU(d sz:Nat)(x:Arr)(_hx:x.size=0)(hd:T d= .c .nsl)(hn:M.length=n)(hM:M++[.row true x]=M')(h:WC P k c ⟨N,upd T d (.c (.sl n 0 0 0 sz)),M'⟩ Φ):WC P k c ⟨N,T,M⟩ Φ:=by
 subst hM;subst hn
 obtain ⟨e,r,h1,h2⟩:=h.h
 refine ⟨⟨e,r,Ev.weak ?_ h1,h2⟩⟩
 intro ι w a hk hR hf
 refine ⟨ι,Rj (s:=⟨N,T,M⟩) d hf rfl rfl ?_,ke hk hR⟩
 intro u hu
 change (T d).rel ι u at hu
 rw [hd] at hu
 change u=_ at hu
 subst hu
 exact ⟨none,0,rfl,Nat.le_refl _,Nat.le_refl _,.inl rfl⟩
theorem xO(d:Nat){b o len cap sz:Nat}{x:Arr}(hd:T d= .c (.sl b o len cap sz))(hb:M[b]?=some (.row true x))(hn:M.length=n)(hM:M.set b .dead++[.row true x]=M')(h:WC P k c ⟨N,upd T d (.c (.sl n o len len sz)),M'⟩ Φ):WC P k c ⟨N,T,M⟩ Φ:=by
 subst hM;subst hn
 obtain ⟨e,r,h1,h2⟩:=h.h
 refine ⟨⟨e,r,Ev.weak ?_ h1,h2⟩⟩
 intro ι w a hk hR hf
 refine ⟨_,Rj (s:=⟨N,T,M⟩) d (hf.mono (sd hR b) M) rfl rfl ?_,wU hk hR hb⟩
 intro u hu
 have hu':=hf.rel d
 change (T d).rel _ u at hu
 rw [hd] at hu
 obtain ⟨p,c',rfl,h3,h4,h5⟩:=hu
 refine ⟨p,c',rfl,h4,h4,h5.imp id ?_⟩
 rintro ⟨l,h6,h7⟩
 refine ⟨l,?_,h7⟩
 show (if M.length=M.length then ι b else ι M.length)=some l
 rw [if_pos rfl]
 unfold Qf at h6
 dsimp only at h6
 split at h6
 ·exact h6
 ·exact h6
def AIn(P:Program)(k:Nat)(c:Code)(Φ:Ex→St→Prop):Ex→St→Prop
 |.normal,s=>WC P k (.loop c) s Φ
 |e,s=>Φ e s
theorem jQ{s:St}(h:WC P k c s (AIn P k c Φ)):WC P k (.loop c) s Φ:=by
 obtain ⟨e,r,h1,h2⟩:=h.h
 cases e with
 |normal=>obtain ⟨e',r',h3,h4⟩:=WC.h h2;exact ⟨⟨e',r',Ev.loop h1 h3,h4⟩⟩
 |exit i=>exact ⟨⟨_,r,Ev.loopx h1 (by simp),h2⟩⟩
 |ret=>exact ⟨⟨_,r,Ev.loopx h1 (by simp),h2⟩⟩
end
section
variable {P:Program} {k N:Nat} {ops:Array Oper} {d:Nat} {ty:TypeId} {pos:String} {af:Array Edge} {l0:List Oper} {T:Nat→AV} {M M':Az} {K:St→Prop} {t t':TypeId} {x y:Operand}
theorem lK{a:Nat}(hx:AF T x= .c (.val (.int .i64 (a:Int))))(h:a≤9223372036854775807):AS P (AF T) M (.unOp .neg t x)=some (.c (.val (.int .i64 (-(a:Int))))):=by
 show (match AF T x with | .c (.val v)=>(Xk (Op.unary .neg v)).map fun u=>AV.c (.val u) | _=>none)=_
 rw [hx]
 have e:Op.unary .neg (.int .i64 (a:Int))=(pure (.int .i64 (-(a:Int))):Sem Value):=by
  have e2:=AGf (t:=0) (a:=0) (b:=(a:Int)) O_
  rw [Int.zero_sub] at e2
  exact e2
 simp only [e];rfl
end
theorem Jb{ops:Array Oper}{t:Nat→AV}{o:Oper}{j d:Nat}{want b c:Bool}(hg:o.guard=some (j,want))(hd:(ops[j]?).bind (·.dst)=some d)(ht:t d= .c (.val (.bool b)))(hb:(b==want)=c):Ci ops t o=some c:=by
 simp only [Ci,hg,hd,ht,hb]
theorem mV{ops:Array Oper}{t:Nat→AV}{o:Oper}{j d:Nat}{want:Bool}{y:Array Value}(hg:o.guard=some (j,want))(hd:(ops[j]?).bind (·.dst)=some d)(ht:t d= .c (.val (.tuple y))):Ci ops t o=some false:=by
 simp only [Ci,hg,hd,ht]
theorem AJy{p:Prop} [Decidable p] (h:p):(decide p==true)=true:=by simp [h]
theorem AJh{p:Prop} [Decidable p] (h:¬p):(decide p==false)=true:=by simp [h]
theorem AES{p:Prop} [Decidable p] (h:p):(decide p==false)=false:=by simp [h]
theorem AEd{p:Prop} [Decidable p] (h:¬p):(decide p==true)=false:=by simp [h]
theorem km{α:Type}(u m:List α)(h:m.length=u.length):over u 0 m=m:=by
 simp [over,h]
@[simp] theorem AA7{α:Type}(u m:List α)(o:Nat):(over u o m).length=min o u.length+m.length+(u.length-(o+m.length)):=by simp [over,Nat.add_assoc]
section
variable {P:Program} {k N:Nat} {ops:Array Oper} {d:Nat} {ty:TypeId} {pos:String} {af:Array Edge} {l0:List Oper} {T:Nat→AV} {M M':Az} {K:St→Prop} {t t':TypeId}
theorem zw{s x:Operand}{el b0 o len cap b o2 n c m:Nat}{own:Bool}{u r:AA 8}(hs:AF T s= .c (.sl b0 o len cap 1))(hms:M[b0]?=some (.row true (.a8 u)))(hx:AF T x= .c (.sl b o2 n c 1))(hm:M[b]?=some (.row own (.a8 r)))(hu:P.underlying t=some (.slice el))(hz:EM P el=some 1)
  (hlu:o+len≤u.length) (hl:o2+n≤r.length) (hn:min n len=m) (hM:M.set b0 (.row true (.a8 (over u o (cut r o2 m))))=M'):
  DK P (AF T) M (.call { callee:= .builtin .copy,args:= #[s,x],argTypes:= #[t,t'] })=some (.c (.val (.int .i64 ((m:Nat):Int))),M'):=by
 show aj P M t (AF T s) (AF T x)=_
 subst hM;subst hn
 rw [hs,hx]
 have h1:o2+min n len≤Arr.size (.a8 r):=by simp only [Arr.size];omega
 have h2:o+min n len≤Arr.size (.a8 u):=by simp only [Arr.size];omega
 simp only [aj,hu,hz,hms,hm,if_true,Nat.zero_lt_one,h1,h2,Arr.win,Arr.one,and_self,Arr.putW,Option.map_some,Nat.mul_one]
theorem sc{s x:Operand}{el b0 o len cap b o2 n c m:Nat}{own:Bool}{u r:AA 8}(hs:AF T s= .c (.sl b0 o len cap 1))(hms:M[b0]?=some (.row true (.a8 u)))(hx:AF T x= .c (.sl b o2 n c 1))(hm:M[b]?=some (.row own (.a8 r)))(hu:P.underlying t=some (.slice el))(hz:EM P el=some 1)
  (hlu:o+len≤u.length) (hl:o2+n≤r.length) (hn:min n len=m) (hM:M.set b0 (.row true (.a8 (over u o (cut r o2 m))))=M') (hd:decide (d<N)=true) (hk:WO P k ops l0 ⟨N,upd T d (.c (.val (.int .i64 ((m:Nat):Int)))),M'⟩ K):
  WO P k ops (⟨some d,.call { callee:= .builtin .copy,args:= #[s,x],argTypes:= #[t,t'] },ty,pos,af,none⟩::l0) ⟨N,T,M⟩ K:=
 UZ (zw hs hms hx hm hu hz hlu hl hn hM) hd hk
theorem mr{s x:Operand}{el b0 o len cap b n c m:Nat}{own:Bool}{u r:AA 8}(hs:AF T s= .c (.sl b0 o len cap 1))(hms:M[b0]?=some (.row true (.a8 u)))(hx:AF T x= .c (.sl b 0 n c 1))(hm:M[b]?=some (.row own (.a8 r)))(hu:P.underlying t=some (.slice el))(hz:EM P el=some 1)
  (hlu:o+len≤u.length) (hl:r.length=n) (hn:min n len=m) (he:m=n) (hM:M.set b0 (.row true (.a8 (over u o r)))=M') (hd:decide (d<N)=true) (hk:WO P k ops l0 ⟨N,upd T d (.c (.val (.int .i64 ((m:Nat):Int)))),M'⟩ K):
  WO P k ops (⟨some d,.call { callee:= .builtin .copy,args:= #[s,x],argTypes:= #[t,t'] },ty,pos,af,none⟩::l0) ⟨N,T,M⟩ K:=
 UZ (zw hs hms hx hm hu hz hlu O_ hn (by rw [he,IE hl];exact hM)) hd hk
theorem ABA{s x:Operand}{el b0 len cap b o2 n c m:Nat}{own:Bool}{u r:AA 8}(hs:AF T s= .c (.sl b0 0 len cap 1))(hms:M[b0]?=some (.row true (.a8 u)))(hx:AF T x= .c (.sl b o2 n c 1))(hm:M[b]?=some (.row own (.a8 r)))(hu:P.underlying t=some (.slice el))(hz:EM P el=some 1)
  (hlu:u.length=len) (hl:o2+n≤r.length) (hn:min n len=m) (he:m=len) (hM:M.set b0 (.row true (.a8 (cut r o2 m)))=M') (hd:decide (d<N)=true) (hk:WO P k ops l0 ⟨N,upd T d (.c (.val (.int .i64 ((m:Nat):Int)))),M'⟩ K):
  WO P k ops (⟨some d,.call { callee:= .builtin .copy,args:= #[s,x],argTypes:= #[t,t'] },ty,pos,af,none⟩::l0) ⟨N,T,M⟩ K:=
 UZ (zw hs hms hx hm hu hz O_ hl hn (by rw [km _ _ (by rw [BV];omega)];exact hM)) hd hk
theorem nw{l:AA 8}{n n' el:Nat}{ps:Array (Nat×Operand)}(hz:(P.info? t).bind (fun i=>i.zero.map (fun z=>CX z.cells.toList))=some (.a8 (Ac n)))(hu:P.underlying t=some (.array n' el))(hs:EM P el=some 1)(h0:(decide (ps.toList.length=n'))=false)
  (hf:KH (fun i=>some (i*1,1)) (.a8 (Ac n)) (ps.toList.map fun p=>(p.1,AF T p.2))=some (.a8 l)):AS P (AF T) M (.build t ps)=some (.agg (.a8 l)):=by
 show CJ P t (ps.toList.map fun p=>(p.1,AF T p.2))=_
 obtain ⟨it,hi,hz2⟩:=Option.bind_eq_some_iff.1 hz
 obtain ⟨z,hz3,hz4⟩:=Option.map_eq_some_iff.1 hz2
 obtain ⟨ie,hie,h1⟩:=Option.map_eq_some_iff.1 hs
 have h9:¬(ie.size=1∧(ps.toList.map fun p=>(p.1,AF T p.2)).length=n'∧z.cells.size=n'):=by
  rintro ⟨_,h,_⟩
  rw [List.length_map] at h
  exact of_decide_eq_false h0 h
 simp only [CJ,hi,hu,hz3,hie]
 rw [if_neg h9]
 simp only [hz4,h1,hf,Option.map_some]
theorem ACi{l:AA 32}{n n' el:Nat}{ps:Array (Nat×Operand)}(hz:(P.info? t).bind (fun i=>i.zero.map (fun z=>CX z.cells.toList))=some (.a32 (DF n)))(hu:P.underlying t=some (.array n' el))(hs:EM P el=some 1)(h0:(decide (ps.toList.length=n'))=false)
  (hf:KH (fun i=>some (i*1,1)) (.a32 (DF n)) (ps.toList.map fun p=>(p.1,AF T p.2))=some (.a32 l)):AS P (AF T) M (.build t ps)=some (.agg (.a32 l)):=by
 show CJ P t (ps.toList.map fun p=>(p.1,AF T p.2))=_
 obtain ⟨it,hi,hz2⟩:=Option.bind_eq_some_iff.1 hz
 obtain ⟨z,hz3,hz4⟩:=Option.map_eq_some_iff.1 hz2
 obtain ⟨ie,hie,h1⟩:=Option.map_eq_some_iff.1 hs
 have h9:¬(ie.size=1∧(ps.toList.map fun p=>(p.1,AF T p.2)).length=n'∧z.cells.size=n'):=by
  rintro ⟨_,h,_⟩
  rw [List.length_map] at h
  exact of_decide_eq_false h0 h
 simp only [CJ,hi,hu,hz3,hie]
 rw [if_neg h9]
 simp only [hz4,h1,hf,Option.map_some]
theorem Fd{l:AA 64}{n n' el:Nat}{ps:Array (Nat×Operand)}(hz:(P.info? t).bind (fun i=>i.zero.map (fun z=>CX z.cells.toList))=some (.a64 (AC n)))(hu:P.underlying t=some (.array n' el))(hs:EM P el=some 1)(h0:(decide (ps.toList.length=n'))=false)
  (hf:KH (fun i=>some (i*1,1)) (.a64 (AC n)) (ps.toList.map fun p=>(p.1,AF T p.2))=some (.a64 l)):AS P (AF T) M (.build t ps)=some (.agg (.a64 l)):=by
 show CJ P t (ps.toList.map fun p=>(p.1,AF T p.2))=_
 obtain ⟨it,hi,hz2⟩:=Option.bind_eq_some_iff.1 hz
 obtain ⟨z,hz3,hz4⟩:=Option.map_eq_some_iff.1 hz2
 obtain ⟨ie,hie,h1⟩:=Option.map_eq_some_iff.1 hs
 have h9:¬(ie.size=1∧(ps.toList.map fun p=>(p.1,AF T p.2)).length=n'∧z.cells.size=n'):=by
  rintro ⟨_,h,_⟩
  rw [List.length_map] at h
  exact of_decide_eq_false h0 h
 simp only [CJ,hi,hu,hz3,hie]
 rw [if_neg h9]
 simp only [hz4,h1,hf,Option.map_some]
end
attribute [simp] BV
theorem AM{p:Prop}(h:p:=by first | exact (rfl:_=0) | exact (rfl:_=1) | exact (rfl:_=2) | exact (rfl:_=3) | exact (rfl:_=4) | exact (rfl:_=5) | exact (rfl:_=6) | exact (rfl:_=7) | exact (rfl:_=8) | exact (rfl:_=9) | exact (rfl:_=10) | exact (rfl:_=11) | exact (rfl:_=12)):p:=h
theorem AT{p:Prop}(h:p:=by first | exact (rfl:_=[]) | exact (rfl:_=[_]) | exact (rfl:_=[_,_]) | exact (rfl:_=[_,_,_]) | exact (rfl:_=[_,_,_,_]) | exact (rfl:_=[_,_,_,_,_]) | exact (rfl:_=[_,_,_,_,_,_]) | exact (rfl:_=[_,_,_,_,_,_,_]) | exact (rfl:_=[_,_,_,_,_,_,_,_]) | exact (rfl:_=[_,_,_,_,_,_,_,_,_]) | exact (rfl:_=[_,_,_,_,_,_,_,_,_,_]) | exact (rfl:_=[_,_,_,_,_,_,_,_,_,_,_]) | exact (rfl:_=[_,_,_,_,_,_,_,_,_,_,_,_]) | exact (rfl:_=[_,_,_,_,_,_,_,_,_,_,_,_,_]) | exact (rfl:_=[_,_,_,_,_,_,_,_,_,_,_,_,_,_]) | exact (rfl:_=[_,_,_,_,_,_,_,_,_,_,_,_,_,_,_]) | exact (rfl:_=[_,_,_,_,_,_,_,_,_,_,_,_,_,_,_,_]) | exact (rfl:_=[_,_,_,_,_,_,_,_,_,_,_,_,_,_,_,_,_]) | exact (rfl:_=[_,_,_,_,_,_,_,_,_,_,_,_,_,_,_,_,_,_]) | exact (rfl:_=[_,_,_,_,_,_,_,_,_,_,_,_,_,_,_,_,_,_,_]) | exact (rfl:_=[_,_,_,_,_,_,_,_,_,_,_,_,_,_,_,_,_,_,_,_]) | exact (rfl:_=[_,_,_,_,_,_,_,_,_,_,_,_,_,_,_,_,_,_,_,_,_]) | exact (rfl:_=[_,_,_,_,_,_,_,_,_,_,_,_,_,_,_,_,_,_,_,_,_,_])):p:=h
theorem T6{p:Prop}(h:p:=by show _≤List.length _;first | omega | (simp only [BW];omega) | (simp only [Bo];omega)):p:=h
theorem Iz{p:Prop}(h:p:=by first | assumption | omega | rfl | (simp only [BW];first | assumption | omega) | (simp only [List.length_append];omega) | (simp;done) | (simp [*];done) | (simp [*];omega)):p:=h
theorem Wg{p:Prop}(h:p:=by first | omega | (simp only [BW];omega) | (simp;done) | (simp;omega) | (simp [*];done) | (simp [*];omega)):p:=h
theorem B4{p:Prop}(h:p:=by first | exact (rfl:_=AV.c (.val _)) | exact (rfl:_=AV.agg (.a64 _)) | exact (rfl:_=AV.agg (.a8 _)) | exact (rfl:_=AV.agg (.a32 _)) | exact (rfl:_=AV.c .nsl) | exact (rfl:_=AV.c (.sl 0 _ _ _ _)) | exact (rfl:_=AV.c (.sl 1 _ _ _ _)) | exact (rfl:_=AV.c (.sl 2 _ _ _ _)) | exact (rfl:_=AV.c (.sl 3 _ _ _ _)) | exact (rfl:_=AV.c (.sl 4 _ _ _ _)) | exact (rfl:_=AV.c (.sl 5 _ _ _ _)) | exact (rfl:_=AV.c (.sl 6 _ _ _ _)) | exact (rfl:_=AV.c (.sl 7 _ _ _ _)) | exact (rfl:_=AV.c (.sl 8 _ _ _ _)) | exact (rfl:_=AV.c (.sl 9 _ _ _ _)) | exact rfl):p:=h
theorem EO{p:Prop}(h:p:=by first | omega | (simp only [BW];omega) | (simp only [MZ];omega) | (simp only [Bo];omega) | (simp only [QX];omega) | (simp only [Sb];omega) | (simp only [lS];omega) | (simp only [kg];omega) | (simp only [Arr.size,List.length_cons,List.length_nil];omega) | (simp only [List.length_cons,List.length_nil];omega) | decide):p:=h
theorem B7{p:Prop}(h:p:=by first | (simp only [Arr.size,List.length_cons,List.length_nil,Nat.reduceAdd];done) | (simp only [Arr.size,MZ,QX,Bo,Sb];done) | (show List.length _=_;first | assumption | omega | (simp only [BW];first | assumption | omega) | (simp only [ZA,List.length_map];first | assumption | omega) | (simp;done) | (simp;assumption) | (simp;omega) | rfl | simp only [MZ] | simp only [Bo] | simp only [QX] | simp only [Sb])):p:=h
theorem yp{p:Prop}(h:p:=by first | rfl):p:=h
theorem AD{p:Prop}(h:p:=by first | omega | (simp;done) | (simp [*];done) | (simp [*];omega) | assumption):p:=h
theorem AP{p:Prop}(h:p:=by first | (simp;done) | (simp [*];done) | (simp [*];omega) | rfl):p:=h
theorem MN_{p:Prop}(h:p:=by first | rfl | omega | (rw [Nat.min_eq_left O_]) | (rw [Nat.min_eq_right O_])):p:=h
theorem PK_{p:Prop}(h:p:=by first | rfl | assumption | (apply decide_eq_true;omega) | (apply decide_eq_false;omega) | (rw [Bool.not_eq_true',decide_eq_false_iff_not];omega) | (rw [Bool.not_eq_false',decide_eq_true_eq];omega) | (simp [*];done) | (simp;omega)):p:=h
theorem KL{p:Prop}(h:p:=by first | rfl | exact mV rfl rfl rfl | exact Jb rfl rfl rfl (by first | rfl | exact AJy O_ | exact AJh O_ | exact AES O_ | exact AEd O_ | (simp [*];done))):p:=h
theorem kM{n:Nat}:(!decide (n=n))=false:=by simp
structure Hid(r:Prop):Prop where
 out:r
theorem S_{g r:Prop}(k:r) (h:Hid r→g:=by
 intro h
 repeat (first
  |refine ADw ?_
  |refine sC ?_
  |refine zp ?_
  |refine AGc ?_
  |refine AI7 ?_
  |refine tH ?_
  |refine rD ?_
  |refine FJ rfl (by first | rfl | (apply decide_eq_true;omega) | (rw [Bool.not_eq_true',decide_eq_false_iff_not];omega)) ?_
  |refine Cg rfl (by first | rfl | (apply decide_eq_false;omega) | (rw [Bool.not_eq_false',decide_eq_true_eq];omega) | exact kM) ?_)
 exact h.out):g:=h ⟨k⟩
theorem Q_{g r:Prop}(k:r) (h:Hid r→g:=by
 intro h
 repeat (first
  |refine ADw ?_
  |refine sC ?_
  |refine zp ?_
  |refine tH ?_
  |refine rD ?_)
 exact h.out):g:=h ⟨k⟩
def lst:Nat→Nat
 |0=>0
 |_+1=>32
@[simp] theorem AJb:lst 0=0:=rfl
@[simp] theorem AJa(j:Nat):lst (j+1)=32:=rfl
theorem xS(j:Nat):lst j≤32:=by cases j<;>simp
section
variable {P:Program} {k N:Nat} {ops:Array Oper} {d:Nat} {ty:TypeId} {pos:String} {af:Array Edge} {l0:List Oper} {T:Nat→AV} {M M':Az} {K:St→Prop} {t t':TypeId}
theorem tG{v:BitVec 64}{i n n' el:Nat}{x:Operand}(hz:(P.info? t).bind (fun i=>i.zero.map (fun z=>CX z.cells.toList))=some (.a64 (AC n)))(hu:P.underlying t=some (.array n' el))(hs:EM P el=some 1)(h0:(decide (1=n'))=false)(hi:decide (i<n)=true)(hx:AF T x= .c (.val (Bp v))):
  AS P (AF T) M (.build t #[(i,x)])=some (.agg (.a64 (put (AC n) i v))):=by
 refine Fd hz hu hs h0 ?_;have h1:i<Arr.size (.a64 (AC n)):=by simp only [Arr.size,MZ];exact of_decide_eq_true hi
 have h2:(Cell.val (Bp v)).one=true:=rfl
 simp only [List.map_cons,List.map_nil,KH,hx,h1,h2,and_self,if_true,Arr.set,lI,Option.map_some,Option.bind_some,Nat.mul_one]
theorem RG{x:Operand}{b o:Nat}(hx:AF T x= .c (.ptr b o)):AS P (AF T) M (.nilCheck x)=some (.c (.ptr b o)):=by
 simp only [AS,hx]
theorem AEr{n:Nat}{s:St}{v:AV}{m':Az}{e:Ex}(he:e= .ret∨e= .normal)(hc:yr n (.tup []) s.m=some ([v],m')):ra P n [] v m' e s:=by
 obtain ⟨ids,h⟩:=Xp hc
 rcases he with rfl | rfl
 ·exact ⟨[],ids,by simp [JY],h⟩
 ·exact ⟨[],ids,by simp [JY],h⟩
theorem ADx(l:AA 8)(o n:Nat):H2 (.a8 l) o n= .a8 (cut l o n):=by
 unfold H2
 split
 ·rename_i h
  obtain ⟨rfl,h⟩:=h
  rw [IE (show l.length=n from h.symm)]
 ·rfl
theorem AGe(l:AA 64)(o n:Nat):H2 (.a64 l) o n= .a64 (cut l o n):=by
 unfold H2
 split
 ·rename_i h
  obtain ⟨rfl,h⟩:=h
  rw [IE (show l.length=n from h.symm)]
 ·rfl
theorem V8{t:TypeId}{a:Operand}{b n o:Nat}{own:Bool}{l:AA 8}(ha:AF T a= .c (.ptr b o))(hm:M[b]?=some (.row own (.a8 l)))(hr:BX P t=some true)(hs:EM P t=some n)(hx:o+n≤l.length)(h0:0<n):AS P (AF T) M (.load t a)=some (.agg (.a8 (cut l o n))):=by
 have hx':o+n≤Arr.size (.a8 l):=hx
 simp only [AS,ha,hm,G4,hr,hs,hx',h0,and_self,if_true,ADx]
theorem Tc{t:TypeId}{a:Operand}{b n o:Nat}{own:Bool}{l:AA 64}(ha:AF T a= .c (.ptr b o))(hm:M[b]?=some (.row own (.a64 l)))(hr:BX P t=some true)(hs:EM P t=some n)(hx:o+n≤l.length)(h0:0<n):AS P (AF T) M (.load t a)=some (.agg (.a64 (cut l o n))):=by
 have hx':o+n≤Arr.size (.a64 l):=hx
 simp only [AS,ha,hm,G4,hr,hs,hx',h0,and_self,if_true,AGe]
theorem AEL{cs:List Cell}{x:Arr}{el by' len n:Nat}{ps:Array (Nat×Operand)}(hu:P.underlying t=some (.slice el))(he:CH P el=some (1,by'))(hr:Lx P el len=some x)(hd:GG 0 (ps.toList.map fun p=>(p.1,AF T p.2))=none)(hf:KH (fun i=>some (i*1,1)) x (ps.toList.map fun p=>(p.1,AF T p.2))=some (.ac cs))(h0:¬len=0)(h1:len≤16777216)(hn:M.length=n):
  DK P (AF T) M (.buildSlice t len ps)=some (.c (.sl n 0 len len 1),M++[.row true (.ac cs)]):=by
 show Dj P M t len (ps.toList.map fun p=>(p.1,AF T p.2))=_
 subst hn
 have e:(if True∧(ps.toList.map fun p=>(p.1,AF T p.2)).length=len then GG 0 (ps.toList.map fun p=>(p.1,AF T p.2)) else none)=none:=by split<;>(first | exact hd | rfl)
 simp only [Dj,hu,he,Nat.mul_one]
 rw [if_neg h0,if_pos h1,e]
 simp only [Nat.mul_one] at hf
 simp only [hr,hf]
theorem VX{P:Program}{t e n:Nat}{k:IntKind}{x y:Arr}{r:Bool}(hu:P.underlying t=some (.array n e))(he:P.underlying e=some (.int k))(hs:EM P e=some 1)(hx:x.size=n)(hy:y.size=n)(hr:x.alike y=some r):kO P t x y=some r:=by
 unfold EM at hs
 obtain ⟨i,hi,h1⟩:=Option.map_eq_some_iff.1 hs
 have hc:P.cellsOf e=1:=by simp [Program.cellsOf,hi,h1]
 have hg:P.eqGuardType P.depth t=false:=by
  show P.eqGuardType (2*(P.types.size+Made.depth)+1+1) t=false
  unfold Program.eqGuardType
  simp only [hu]
  unfold Program.eqGuardType
  simp only [he]
 unfold kO
 simp only [hu,he,hi,hc,hg,hx,hy,true_and,if_true,hr]
theorem ir{x y:Operand}{l m:AA 8}{n e:Nat}(hx:AF T x= .agg (.a8 l))(hy:AF T y= .agg (.a8 m))(hu:P.underlying t=some (.array n e))(he:P.underlying e=some (.int .u8))(hs:EM P e=some 1)(hl:l.length=n)(hm:m.length=n):
  AS P (AF T) M (.binOp .eql t x y t')=some (.c (.val (.bool (decide (l=m))))):=by
 show L7 P .eql t x y (AF T x) (AF T y)=_
 rw [hx,hy]
 simp only [L7,VX hu he hs (x:= .a8 l) (y:= .a8 m) (r:=decide (l=m)) hl hm rfl]
theorem Vg{x y:Operand}{l m:AA 64}{n e:Nat}(hx:AF T x= .agg (.a64 l))(hy:AF T y= .agg (.a64 m))(hu:P.underlying t=some (.array n e))(he:P.underlying e=some (.int .u64))(hs:EM P e=some 1)(hl:l.length=n)(hm:m.length=n):
  AS P (AF T) M (.binOp .eql t x y t')=some (.c (.val (.bool (decide (l=m))))):=by
 show L7 P .eql t x y (AF T x) (AF T y)=_
 rw [hx,hy]
 simp only [L7,VX hu he hs (x:= .a64 l) (y:= .a64 m) (r:=decide (l=m)) hl hm rfl]
theorem fu{x y:Operand}{l m:AA 8}{n e:Nat}(hx:AF T x= .agg (.a8 l))(hy:AF T y= .agg (.a8 m))(hu:P.underlying t=some (.array n e))(he:P.underlying e=some (.int .u8))(hs:EM P e=some 1)(hl:l.length=n)(hm:m.length=n):
  AS P (AF T) M (.binOp .neq t x y t')=some (.c (.val (.bool (!decide (l=m))))):=by
 show L7 P .neq t x y (AF T x) (AF T y)=_
 rw [hx,hy]
 simp only [L7,VX hu he hs (x:= .a8 l) (y:= .a8 m) (r:=decide (l=m)) hl hm rfl]
theorem AAx{x y:Operand}{l m:AA 64}{n e:Nat}(hx:AF T x= .agg (.a64 l))(hy:AF T y= .agg (.a64 m))(hu:P.underlying t=some (.array n e))(he:P.underlying e=some (.int .u64))(hs:EM P e=some 1)(hl:l.length=n)(hm:m.length=n):
  AS P (AF T) M (.binOp .neq t x y t')=some (.c (.val (.bool (!decide (l=m))))):=by
 show L7 P .neq t x y (AF T x) (AF T y)=_
 rw [hx,hy]
 simp only [L7,VX hu he hs (x:= .a64 l) (y:= .a64 m) (r:=decide (l=m)) hl hm rfl]
end
theorem CS_{p:Prop}(h:p:=by first | exact (rfl:_=some (Arr.ac [_])) | exact (rfl:_=some (Arr.ac [_,_])) | exact (rfl:_=some (Arr.ac [_,_,_])) | exact (rfl:_=some (Arr.ac [_,_,_,_])) | exact (rfl:_=some (Arr.ac [_,_,_,_,_])) | exact (rfl:_=some (Arr.ac [_,_,_,_,_,_]))):p:=h
theorem C6{P:Program}{T:Nat→AV}{M:Az}{op:Op}{b c:Bool}(h:AS P (AF T) M op=some (.c (.val (.bool b))))(hb:b=c):AS P (AF T) M op=some (.c (.val (.bool c))):=by rw [←hb];exact h
theorem A7{P:Program}{T:Nat→AV}{M:Az}{t f:Nat}{x:Operand}{b o:Nat}{v:AV}(hx:AF T x= .c (.ptr b o))(hf:Br P t (.c (.ptr b o)) f=some v):AS P (AF T) M (.fieldAddr t x f)=some v:=by
 show Br P t (AF T x) f=some v
 rw [hx];exact hf
def iV(P:Program)(t:TypeId):Option (List (Nat×Nat)):=
 match P.underlying t with
 |some (.struct fields)=>fields.toList.mapM fun f=>(P.info? f.type).map fun i=>(f.offset,i.size)
 |_=>none
theorem NY{P:Program}{t:TypeId}{x:Arr}{places:List (Nat×Nat)}(hz:(P.info? t).bind (fun i=>i.zero.map fun z=>CX z.cells.toList)=some x)(hp:iV P t=some places)(parts:List (Nat×AV)):
  CJ P t parts=(KH (places.toArray[·]?) x parts).map .agg:=by
 obtain ⟨i,hi,hz2⟩:=Option.bind_eq_some_iff.1 hz
 obtain ⟨z,hz3,hz4⟩:=Option.map_eq_some_iff.1 hz2
 unfold iV at hp
 split at hp
 ·rename_i fields hu
  unfold CJ
  simp only [hi,hu,hz3,hp,hz4]
 ·cases hp
theorem WI{P:Program}{t:TypeId}{x:Arr}(hz:(P.info? t).bind (fun i=>i.zero.map fun z=>CX z.cells.toList)=some x)(hp:(iV P t).isSome=true):CJ P t []=some (.agg x):=by
 obtain ⟨places,h⟩:=Option.isSome_iff_exists.1 hp
 rw [NY hz h]
 rfl
theorem XX{P:Program}{T:Nat→AV}{M:Az}{t:Nat}{v:AV}(h:CJ P t []=some v):AS P (AF T) M (.build t #[])=some v:=h
theorem TX{α:Type}(p q r m:List α)(n:Nat)(hn:p.length=n)(h:q.length=m.length):over (p++(q++r)) n m=p++(m++r):=by
 subst hn
 unfold over
 rw [List.take_left',List.append_assoc]
 ·congr 2
  rw [←List.append_assoc,List.drop_left']
  rw [List.length_append,h]
 ·rfl
theorem Ty{pl:Nat→Option (Nat×Nat)}{i o n:Nat}{l a:AA 64}{rest:List (Nat×AV)}(h:pl i=some (o,n))(ha:a.length=n)(hl:o+n≤l.length):KH pl (.a64 l) ((i,.agg (.a64 a))::rest)=KH pl (.a64 (over l o a)) rest:=by
 subst ha
 have e:a.length=Arr.size (.a64 a)∧o+Arr.size (.a64 a)≤Arr.size (.a64 l):=⟨rfl,hl⟩
 simp only [KH,h]
 rw [if_pos e]
 rfl
theorem eX{pl:Nat→Option (Nat×Nat)}{n:Nat}{a b c d:AA 64}(h0:pl 0=some (0,n))(h1:pl 1=some (n,n))(h2:pl 2=some (n+n,n))(h3:pl 3=some (n+n+n,n))(ha:a.length=n)(hb:b.length=n)(hc:c.length=n)(hd:d.length=n):
  KH pl (.a64 (AC (n+n+n+n))) [(0,.agg (.a64 a)),(1,.agg (.a64 b)),(2,.agg (.a64 c)),(3,.agg (.a64 d))]=some (.a64 (a++b++c++d)):=by
 have z:AC (n+n+n+n)=[]++(AC n++(AC n++(AC n++AC n))):=by
  unfold AC
  rw [List.nil_append,List.replicate_append_replicate,List.replicate_append_replicate,List.replicate_append_replicate]
  congr 1
  omega
 have lz:(AC n).length=n:=by simp
 rw [z,Ty h0 ha (by simp only [List.length_append,List.length_nil,lz];omega),TX [] (AC n) _ a 0 rfl (by rw [lz,ha]),List.nil_append]
 rw [Ty h1 hb (by simp only [List.length_append,lz,ha];omega),TX a (AC n) _ b n ha (by rw [lz,hb]),←List.append_assoc a b]
 rw [Ty h2 hc (by simp only [List.length_append,lz,ha,hb];omega),TX (a++b) (AC n) _ c (n+n) (by rw [List.length_append,ha,hb]) (by rw [lz,hc]),←List.append_assoc (a++b) c]
 rw [Ty h3 hd (by simp only [List.length_append,lz,ha,hb,hc];omega)]
 have:=TX (a++b++c) (AC n) [] d (n+n+n) (by rw [List.length_append,List.length_append,ha,hb,hc]) (by rw [lz,hd])
 rw [List.append_nil,List.append_nil] at this
 rw [this]
 rfl
theorem gb{P:Program}{T:Nat→AV}{M:Az}{t:Nat}{x0 x1 x2 x3:Operand}{a b c d:AA 64}{v:AV}(h0:AF T x0= .agg (.a64 a))(h1:AF T x1= .agg (.a64 b))(h2:AF T x2= .agg (.a64 c))(h3:AF T x3= .agg (.a64 d))
  (h:CJ P t [(0,.agg (.a64 a)),(1,.agg (.a64 b)),(2,.agg (.a64 c)),(3,.agg (.a64 d))]=some v):AS P (AF T) M (.build t #[(0,x0),(1,x1),(2,x2),(3,x3)])=some v:=by
 show CJ P t [(0,AF T x0),(1,AF T x1),(2,AF T x2),(3,AF T x3)]=some v
 rw [h0,h1,h2,h3];exact h
def Nu(ι:Emb)(w:World)(b:Nat):Emb:=⟨ι.f,fun c o v=>ι.tx c o v∨ ∃l,ι b=some l∧c=l.c∧ ∃cs t fr,w.heap[c]?=some (.cells cs t fr)∧cs[o]?=some v⟩
theorem gD(ι:Emb)(w:World)(b:Nat):ι.le (Nu ι w b):=⟨fun _ _ h=>h,fun _ _ _ h=> .inl h⟩
theorem Tq{k:Nat}{ι:Emb}{M:Az}{w:World}{b:Nat}{x:Arr}(hk:k≤M.length)(hR:R ι M w)(hm:M[b]?=some (.row true x)):Step k ι M w (Nu ι w b) (M.set b .dead) w:=by
 have src:∀ {i:Nat} {own:Bool} {y:Arr},(M.set b .dead)[i]?=some (.row own y)→i≠b∧M[i]?=some (.row own y):=fun {i own y} h=>by
  rcases C0 h with ⟨h1,h2⟩ | ⟨_,h2⟩
  ·exact ⟨h1,h2⟩
  ·cases h2
 refine ⟨⟨fun i hi=>hR.dom i (by simpa using hi),fun i l own y h1 h2=>?_,fun i i' l l' own own' y y' hne h1 h2 h3 h4 ho=>?_,fun c Φ hc=>?_⟩,⟨rfl,rfl,rfl,Nat.le_refl _,fun _ _ _=>rfl,fun c hc=>?_⟩,fun _ _ _ h=> .inl h,fun c o v hc=>?_,fun _ _=>rfl,by simpa using hk,fun i y hi h=>?_,fun i own y hi h=>⟨y,(src h).2⟩,fun i l own y hi h1 h2=> .inr (.inr ⟨i,l,own,y,hi,h1,(src h2).2,rfl⟩)⟩
 ·exact (hR.rows i l own y h1 (src h2).2).mono (gD ι w b)
 ·exact hR.inj i i' l l' own own' y y' hne h1 h2 (src h3).2 (src h4).2 ho
 ·have keep:∀ {Ψ:Obj→Prop},LZ ι c Ψ→(∃ob,w.heap[c]?=some ob∧Ψ ob)∧ ∀i l y,(Nu ι w b) i=some l→(M.set b .dead)[i]?=some (.row true y)→l.c≠c:=fun k=>⟨(hR.stay c _ k).1,fun i l y h1 h2=>(hR.stay c _ k).2 i l y h1 (src h2).2⟩
  cases hc with
  |base k=>exact keep (.base k)
  |tx hc=>
   rcases hc with hc | ⟨l,hl,rfl,hcs⟩
   ·exact keep (.tx hc)
   ·obtain ⟨cs,t,fr,h1,h2⟩:=hcs
    refine ⟨⟨_,h1,cs,t,fr,rfl,h2⟩,fun i l' y h3 h4=>?_⟩
    obtain ⟨h5,h6⟩:=src h4
    exact hR.inj i b l' l true true y x h5 h3 hl h6 hm (.inl rfl)
 ·obtain ⟨i,l,y,h1,h2,rfl⟩:=hc
  exact .inr ⟨i,l,y,h1,(src h2).2,rfl⟩
 ·rcases hc with hc | ⟨l,hl,rfl,_⟩
  ·exact .inl hc
  ·exact .inr (.inr ⟨b,l,x,hl,hm,rfl⟩)
 ·rw [List.getElem?_set_ne (fun e=>by subst e;rw [hm] at h;cases h)];exact h
theorem ky{ι:Emb}{M:Az}{w:World}{b o len cap:Nat}{x:Arr}(hR:R ι M w)(hm:M[b]?=some (.row true x))(hx:x.isMap=false)(ho:o+len≤x.size){g:Nat→Value}(hg:∀i u,i<len→(x.get (o+i)).rel ι u→u=g i){v:Value}(hv:Cell.rel ι (.sl b o len cap 1) v):DZ (Nu ι w b) g len v:=by
 obtain ⟨p,cap',rfl,_,h2,h3⟩:=hv
 refine ⟨p,cap',rfl,h2,?_⟩
 rcases h3 with h3 | ⟨l,hl,rfl,h4⟩
 ·exact .inl h3
 ·by_cases h0:cap'=0
  ·exact .inl h0
  ·obtain ⟨cs,t,fr,k1,k2,k3,k4⟩:=hR.cells hl hm hx
   obtain ⟨_,k5⟩:=k4 rfl
   have hlt:l.off<cs.size:=by omega
   refine .inr ⟨l.c,l.off+o,rfl,⟨l.off,cs[l.off],.inr ⟨l,hl,rfl,cs,t,fr,k1,by simp [hlt]⟩⟩,fun i hi=>?_⟩
   obtain ⟨u,e1,e2⟩:=k3 (o+i) O_
   obtain rfl:=hg i u hi e2
   exact .inr ⟨l,hl,rfl,cs,t,fr,k1,by rw [Nat.add_assoc];exact e1⟩
theorem uC{ι:Emb}{M:Az}{w:World}{b o len cap:Nat}{x:AA 8}(hR:R ι M w)(hm:M[b]?=some (.row true (.a8 x)))(ho:o+len≤x.length){v:Value}(hv:Cell.rel ι (.sl b o len cap 1) v):Cell.rel (Nu ι w b) (.bs (cut x o len)) v:=by
 have hl:(cut x o len).length=len:=by rw [BV];omega
 show DZ _ _ (cut x o len).length v
 rw [hl]
 refine ky hR hm rfl ho (fun i u hi h=>?_) hv
 rw [show nth (cut x o len) i=nth x (o+i) from Qa x o len i _ hi]
 exact h
theorem uw{ι:Emb}{M:Az}{w:World}{b o len cap:Nat}{x:List Int}(hR:R ι M w)(hm:M[b]?=some (.row true (.ai x)))(ho:o+len≤x.length){v:Value}(hv:Cell.rel ι (.sl b o len cap 1) v):Cell.rel (Nu ι w b) (.is (cut x o len)) v:=by
 have hl:(cut x o len).length=len:=by rw [BV];omega
 show DZ _ _ (cut x o len).length v
 rw [hl]
 refine ky hR hm rfl ho (fun i u hi h=>?_) hv
 rw [show (cut x o len).getD i 0=x.getD (o+i) 0 from Qa x o len i _ hi]
 exact h
theorem Ev.opPost{P:Program}{op:Op}{e:Operand→AV}{m M1 M2:Az}{v v':AV}(h:Ev P (.op op e m) (.val v M1))(hp:∀(ι:Emb) (w:World) (u:Value),m.length≤M1.length→R ι M1 w→v.rel ι u→ ∃ι',v'.rel ι' u∧Step m.length ι M1 w ι' M2 w):Ev P (.op op e m) (.val v' M2):=by
 refine Ev.sem fun O ι w ρ hO hR hρ=>?_
 rcases sound h O ι w ρ hO hR hρ with ⟨u,w',ι',hr,hv,hst⟩ | ⟨f,args,hr,hc⟩
 ·obtain ⟨ι2,g1,g2⟩:=hp ι' w' u hst.len hst.r hv
  exact .inl ⟨u,w',ι2,hr,g1,hst.comp g2⟩
 ·refine .inr ⟨f,args,hr,hc.mono fun e' w' ⟨u,ι',he,hv,hst⟩=>?_⟩
  obtain ⟨ι2,g1,g2⟩:=hp ι' w' u hst.len hst.r hv
  exact ⟨u,ι2,he,g1,hst.comp g2⟩
theorem eA{ι:Emb}{M:Az}{w:World}{b n cap:Nat}{x:AA 8}(hR:R ι M w)(hm:M[b]?=some (.row true (.a8 x)))(hn:x.length=n){v:Value}(hv:Cell.rel ι (.sl b 0 n cap 1) v):Cell.rel (Nu ι w b) (.bs x) v:=by
 have:=uC hR hm O_ hv
 rwa [IE hn] at this
theorem dw{ι:Emb}{M:Az}{w:World}{b n cap:Nat}{x:List Int}(hR:R ι M w)(hm:M[b]?=some (.row true (.ai x)))(hn:x.length=n){v:Value}(hv:Cell.rel ι (.sl b 0 n cap 1) v):Cell.rel (Nu ι w b) (.is x) v:=by
 have:=uw hR hm O_ hv
 rwa [IE hn] at this
section
variable {P:Program} {op:Op} {e:Operand→AV} {m M1 M2:Az} {b n cap:Nat} {r:List AV}
theorem ACr{x:AA 8}(h:Ev P (.op op e m) (.val (.c (.sl b 0 n cap 1)) M1))(hm:M1[b]?=some (.row true (.a8 x)))(hn:x.length=n)(hM:M1.set b .dead=M2):Ev P (.op op e m) (.val (.c (.bs x)) M2):=by
 subst hM
 exact Ev.opPost h fun ι w u hk hR hv=>⟨_,eA hR hm hn hv,Tq hk hR hm⟩
theorem ACa{x:List Int}(h:Ev P (.op op e m) (.val (.c (.sl b 0 n cap 1)) M1))(hm:M1[b]?=some (.row true (.ai x)))(hn:x.length=n)(hM:M1.set b .dead=M2):Ev P (.op op e m) (.val (.c (.is x)) M2):=by
 subst hM
 exact Ev.opPost h fun ι w u hk hR hv=>⟨_,dw hR hm hn hv,Tq hk hR hm⟩
end
section
variable {P:Program} {k N:Nat} {c:Code} {T:Nat→AV} {M M':Az} {Φ:Ex→St→Prop}
theorem Mh(d:Nat){b n cap:Nat}{x:AA 8}(hd:T d= .c (.sl b 0 n cap 1))(hb:M[b]?=some (.row true (.a8 x)))(hn:x.length=n)(hM:M.set b .dead=M')(h:WC P k c ⟨N,upd T d (.c (.bs x)),M'⟩ Φ):WC P k c ⟨N,T,M⟩ Φ:=by
 subst hM
 obtain ⟨e,r,h1,h2⟩:=h.h
 refine ⟨⟨e,r,Ev.weak ?_ h1,h2⟩⟩
 intro ι w a hk hR hf
 refine ⟨_,Rj (s:=⟨N,T,M⟩) d (hf.mono (gD ι w b) M) rfl rfl ?_,Tq hk hR hb⟩
 intro u hu
 have hu':=hf.rel d
 change (T d).rel _ u at hu
 rw [hd] at hu
 obtain ⟨p,c',rfl,h3,h4,h5⟩:=hu
 exact eA hR hb hn ⟨p,c',rfl,h3,h4,h5⟩
theorem ACJ(d:Nat){b n cap:Nat}{x:List Int}(hd:T d= .c (.sl b 0 n cap 1))(hb:M[b]?=some (.row true (.ai x)))(hn:x.length=n)(hM:M.set b .dead=M')(h:WC P k c ⟨N,upd T d (.c (.is x)),M'⟩ Φ):WC P k c ⟨N,T,M⟩ Φ:=by
 subst hM
 obtain ⟨e,r,h1,h2⟩:=h.h
 refine ⟨⟨e,r,Ev.weak ?_ h1,h2⟩⟩
 intro ι w a hk hR hf
 refine ⟨_,Rj (s:=⟨N,T,M⟩) d (hf.mono (gD ι w b) M) rfl rfl ?_,Tq hk hR hb⟩
 intro u hu
 change (T d).rel _ u at hu
 rw [hd] at hu
 obtain ⟨p,c',rfl,h3,h4,h5⟩:=hu
 exact dw hR hb hn ⟨p,c',rfl,h3,h4,h5⟩
theorem gY(d:Nat)(hd:T d= .c .nsl)(h:WC P k c ⟨N,upd T d (.c (.bs [])),M⟩ Φ):WC P k c ⟨N,T,M⟩ Φ:=by
 obtain ⟨e,r,h1,h2⟩:=h.h
 refine ⟨⟨e,r,Ev.weak ?_ h1,h2⟩⟩
 intro ι w a hk hR hf
 refine ⟨ι,Rj (s:=⟨N,T,M⟩) d hf rfl rfl ?_,Step.refl hR hk⟩
 intro u hu
 change (T d).rel ι u at hu
 rw [hd] at hu
 change u=_ at hu
 subst hu
 exact ⟨none,0,rfl,Nat.le_refl _,.inl rfl⟩
end
end Go.Proofs.YtmbepikkgkcgkaaGreatDoor
namespace Go.Proofs.YtmbepikkgkcgkaaGreatDoor
open Go.RowKit
open Go.MapKept (IsKey findNow_spec run_checkKey run_findKey)
variable {g r : Prop}
open Go.Proofs.Tryz
theorem AAH{k:Nat}{ι:Emb}{M:Az}{w:World}(hk:k≤M.length)(hR:R ι M w){b:Nat}{l:Loc}{x:Arr}{es:List (Value×Fy)}(hb:ι b=some l)(hm:M[b]?=some (.row true x)){ents:Array MapEntry}{clock:Nat}(he:Kv ι es ents):
  Step k ι M w ι (M.set b (.row true (.mp es))) { w with heap:=w.heap.setIfInBounds l.c (.map ents clock) }:=by
 have hown:Dv ι M l.c:=⟨b,l,x,hb,hm,rfl⟩
 have hlt:=hR.lt hb hm
 have far:∀c,c≠l.c→(w.heap.setIfInBounds l.c (.map ents clock))[c]?=w.heap[c]?:=fun c hc=>by rw [Array.getElem?_setIfInBounds_ne (fun e=>hc e.symm)]
 refine Step.make hR (fun b hb=>hR.dom b (by simpa using hb)) (fun b1 l1 own z hb1 hm1=>?_) (fun b1 b2 l1 l2 o1 o2 z1 z2 hne h1 h2 k1 k2 ho=>?_) ⟨rfl,rfl,rfl,by simp,fun c hc hn=>far c (fun e=>hn (by rw [e];exact hown)),fun c hc=>?_⟩ rfl (fun _ _=>rfl) (by simpa using hk) (fun b1 z hb1 hm1=>?_) (fun b1 own z hb1 hm1=>?_) (fun b1 l1 own z hb1 h1 h2=>?_)
 ·rcases C0 hm1 with ⟨hne,hm1⟩ | ⟨rfl,e⟩
  ·have hc:l1.c≠l.c:=hR.inj b1 b l1 l own true z x hne hb1 hb hm1 hm (.inr rfl)
   exact (hR.rows b1 l1 own z hb1 hm1).heap (far _ hc) (.refl _)
  ·cases e
   rw [hb] at hb1;cases hb1
   exact ⟨ents,clock,by simp [hlt],he⟩
 ·rcases C0 k1 with ⟨e1,m1⟩ | ⟨rfl,e1⟩<;>rcases C0 k2 with ⟨e2,m2⟩ | ⟨rfl,e2⟩
  ·exact hR.inj b1 b2 l1 l2 o1 o2 z1 z2 hne h1 h2 m1 m2 ho
  ·exact hR.inj b1 b2 l1 l2 o1 true z1 x hne h1 h2 m1 hm (.inr rfl)
  ·exact hR.inj b1 b2 l1 l2 true o2 x z2 hne h1 h2 hm m2 (.inl rfl)
  ·exact absurd rfl hne
 ·obtain ⟨b1,l1,z,h1,k1,rfl⟩:=hc
  rcases C0 k1 with ⟨e1,k1⟩ | ⟨rfl,e1⟩
  ·exact .inr ⟨b1,l1,z,h1,k1,rfl⟩
  ·exact .inr ⟨b1,l1,x,h1,hm,rfl⟩
 ·rw [List.getElem?_set_ne (fun e=>by subst e;rw [hm] at hm1;cases hm1)];exact hm1
 ·rcases C0 hm1 with ⟨hne,hm1⟩ | ⟨rfl,e⟩
  ·exact ⟨z,hm1⟩
  ·cases e;exact ⟨x,hm⟩
 ·rcases C0 h2 with ⟨hne,h2⟩ | ⟨rfl,e⟩
  ·exact .inr (.inr ⟨b1,l1,own,z,hb1,h1,h2,rfl⟩)
  ·exact .inr (.inr ⟨b1,l1,true,x,hb1,h1,hm,rfl⟩)
theorem kp{ι:Emb}{M:Az}{w:World}(hR:R ι M w):Step M.length ι M w (ι.upd M.length ⟨w.heap.size,0,0⟩) (M++[.row true (.mp [])]) (w.alloc (.map #[] 0)):=by
 have hle:=hR.upd_le ⟨w.heap.size,0,0⟩
 have old:∀c,c<w.heap.size→(w.alloc (.map #[] 0)).heap[c]?=w.heap[c]?:=fun c hc=>by show (w.heap.push _)[c]?=_;rw [Array.getElem?_push,if_neg O_]
 refine Step.make hR (fun b hb=>?_) (fun b l own y hb hm=>?_) (fun b b' l l' own own' y y' hne hb hb' hm hm' ho=>?_) ⟨rfl,rfl,rfl,by show _≤(w.heap.push _).size;simp,fun c hc _=>old c hc,fun c hc=>?_⟩ rfl (fun b hb=>Emb.upd_ne O_) (by simp) (fun b x hb hm=>by rw [List.getElem?_append_left hb];exact hm) (fun b own x hb hm=>⟨x,by rwa [List.getElem?_append_left hb] at hm⟩) (fun b l own y hb h1 h2=>?_)
 ·simp at hb
  rw [Emb.upd_ne O_];exact hR.dom b O_
 ·rcases Dg hm with ⟨hlt,hm⟩ | ⟨rfl,e⟩
  ·rw [Emb.upd_ne O_] at hb
   exact (hR.rows b l own y hb hm).heap (old _ (hR.lt hb hm)) hle
  ·cases e
   rw [Emb.upd_eq] at hb
   cases hb
   exact ⟨#[],0,by show (w.heap.push _)[w.heap.size]?=_;rw [Array.getElem?_push,if_pos rfl],rfl,fun i p h=>by simp at h⟩
 ·rcases Dg hm with ⟨hlt,hm⟩ | ⟨rfl,e⟩<;>rcases Dg hm' with ⟨hlt',hm'⟩ | ⟨rfl,e'⟩
  ·rw [Emb.upd_ne O_] at hb hb'
   exact hR.inj b b' l l' own own' y y' hne hb hb' hm hm' ho
  ·rw [Emb.upd_ne O_] at hb
   rw [Emb.upd_eq] at hb'
   cases hb'
   have:=hR.lt hb hm
   show l.c≠w.heap.size
   omega
  ·rw [Emb.upd_ne O_] at hb'
   rw [Emb.upd_eq] at hb
   cases hb
   have:=hR.lt hb' hm'
   show w.heap.size≠l'.c
   omega
  ·exact absurd rfl hne
 ·obtain ⟨b,l,y,hb,hm,rfl⟩:=hc
  rcases Dg hm with ⟨hlt,hm⟩ | ⟨rfl,e⟩
  ·rw [Emb.upd_ne O_] at hb
   exact .inr ⟨b,l,y,hb,hm,rfl⟩
  ·rw [Emb.upd_eq] at hb
   cases hb
   exact .inl (Nat.le_refl _)
 ·rcases Dg h2 with ⟨hlt,h2⟩ | ⟨rfl,e⟩
  ·omega
  ·rw [Emb.upd_eq] at h1
   cases h1
   exact .inl (Nat.le_refl _)
def Keyed(d:TypeDesc)(es:List (Value×Fy)):Prop:=(∀p∈es,IsKey d p.1)∧es.Pairwise fun p q=>p.1≠q.1
theorem Keyed.ents{d:TypeDesc}{es:List (Value×Fy)}(h:Keyed d es){ι:Emb}{ents:Array MapEntry}(he:Kv ι es ents):∀x∈ents.toList,IsKey d x.key:=by
 intro x hx
 obtain ⟨i,hi,rfl⟩:=List.getElem_of_mem hx
 simp only [Array.length_toList] at hi
 have hi':i<es.length:=by rw [←he.1];exact hi
 obtain ⟨e,h1,h2,_⟩:=he.2 i es[i] (by simp [hi'])
 rw [Array.getElem?_eq_getElem hi] at h1
 cases h1
 rw [Array.getElem_toList,h2]
 exact h.1 _ (List.getElem_mem _)
theorem vZ{ι:Emb}{es:List (Value×Fy)}{ents:Array MapEntry}(he:Kv ι es ents){k:Value}(hk:∀p∈es,p.1≠k):∀x∈ents.toList,x.key≠k:=by
 intro x hx
 obtain ⟨i,hi,rfl⟩:=List.getElem_of_mem hx
 simp only [Array.length_toList] at hi
 have hi':i<es.length:=by rw [←he.1];exact hi
 obtain ⟨e,h1,h2,_⟩:=he.2 i es[i] (by simp [hi'])
 rw [Array.getElem?_eq_getElem hi] at h1
 cases h1
 rw [Array.getElem_toList,h2]
 exact hk _ (List.getElem_mem _)
theorem ev{P:Program}{ι:Emb}{w:World}{kt:TypeId}{d:TypeDesc}{es:List (Value×Fy)}{ents:Array MapEntry}(hd:P.underlying kt=some d)(hes:Keyed d es)(he:Kv ι es ents){k:Value}(hk:IsKey d k)(hn:∀p∈es,p.1≠k):(Instr.findKey kt k ents.toList).run P w= .ok none w:=by
 refine run_findKey hd ?_;rcases findNow_spec hk ents.toList 0 (hes.ents he) with ⟨h,_⟩ | ⟨j,e,_,h2,h3⟩
 ·exact h
 ·exact absurd h3 (vZ he hn _ (List.mem_of_getElem? h2))
theorem wE{P:Program}{ι:Emb}{w:World}{kt:TypeId}{d:TypeDesc}{es:List (Value×Fy)}{ents:Array MapEntry}(hd:P.underlying kt=some d)(hes:Keyed d es)(he:Kv ι es ents){k:Value}{c:Fy}(hm:(k,c)∈es):∃j v,(Instr.findKey kt k ents.toList).run P w= .ok (some (j,v)) w∧c.cell.rel ι v:=by
 rcases findNow_spec (hes.1 _ hm) ents.toList 0 (hes.ents he) with ⟨_,h⟩ | ⟨j,e,h1,h2,h3⟩
 ·obtain ⟨i,hi,e⟩:=List.getElem_of_mem hm
  obtain ⟨x,h1,h2,_⟩:=he.2 i (k,c) (by simp [hi,e])
  exact absurd h2 (h x (by rw [←Array.getElem?_toList] at h1;exact List.mem_of_getElem? h1))
 ·have hj:j<es.length:=by
   have:=(List.getElem?_eq_some_iff.1 h2).1
   rw [Array.length_toList,he.1] at this;exact this
  obtain ⟨x,g1,g2,g3⟩:=he.2 j es[j] (by simp [hj])
  rw [Array.getElem?_toList,g1] at h2
  cases h2
  have hp:es[j]=(k,c):=by
   obtain ⟨i,hi,e1⟩:=List.getElem_of_mem hm
   rcases Nat.lt_trichotomy i j with hij | hij | hij
   ·have:=List.pairwise_iff_getElem.1 hes.2 i j hi hj hij
    rw [e1] at this
    exact absurd (g2.symm.trans h3).symm this
   ·subst hij;exact e1
   ·have:=List.pairwise_iff_getElem.1 hes.2 j i hj hi hij
    rw [e1] at this
    exact absurd (g2.symm.trans h3) this
  rw [hp] at g3
  exact ⟨_,_,run_findKey hd h1,g3⟩
section
variable {P:Program} {e:Operand→AV} {M M':Az} {b:Nat} {t kt el:TypeId} {d:TypeDesc} {x ix y:Operand} {es:List (Value×Fy)} {k:Value} {c:Fy} {own:Bool}
theorem eF:Ev P (.op (.makeMap t none) e M) (.val (.c (.mp M.length)) (M++[.row true (.mp [])])):=
 Ev.sem fun O ι w ρ hO hR _=>by
  obtain ⟨dst,op,ty,pos,af,gd⟩:=O
  subst hO
  refine .inl ⟨.map (some w.heap.size),_,_,.inl ?_,⟨_,Emb.upd_eq _ _ _,rfl⟩,kp hR⟩
  simp [execOp,Instr.makeMap]
theorem nU{ι:Emb}{w:World}(hR:R ι M w)(hm:M[b]?=some (.row own (.mp es))){v:Value}(hv:Cell.rel ι (.mp b) v):∃l ents clock,ι b=some l∧v= .map (some l.c)∧w.heap[l.c]?=some (.map ents clock)∧Kv ι es ents:=by
 obtain ⟨l,hl,rfl⟩:=hv
 obtain ⟨ents,clock,h1,h2⟩:=hR.rows b l own _ hl hm
 exact ⟨l,ents,clock,hl,rfl,h1,h2⟩
theorem dC(ht:P.underlying t=some (.map kt el))(hd:P.underlying kt=some d)(hx:e x= .c (.mp b))(hi:e ix= .c (.val k))(hm:M[b]?=some (.row own (.mp es)))(hes:Keyed d es)(hk:(k,c)∈es):Ev P (.op (.lookup t x ix false) e M) (.val (.c c.cell) M):=
 Ev.sem fun O ι w ρ hO hR hρ=>by
  obtain ⟨dst,op,ty,pos,af,gd⟩:=O
  subst hO
  have h1:=hρ x (by simp [Op.operands])
  have h2:=hρ ix (by simp [Op.operands])
  rw [hx] at h1;rw [hi] at h2
  obtain ⟨l,ents,clock,hl,hv,hh,he⟩:=nU hR hm h1
  obtain ⟨j,v,g1,g2⟩:=wE (w:=w) hd hes he hk
  have h2:ρ ix=k:=h2
  refine .inl ⟨v,w,ι,.inl ?_,g2,Step.refl hR (Nat.le_refl _)⟩
  simp [execOp,Instr.lookup,run_underlying ht,hv,h2,Go.MapKept.run_getObj_map hh,run_checkKey hd (hes.1 _ hk),g1]
theorem AB0{i:TypeInfo}{z:Value}(ht:P.underlying t=some (.map kt el))(hd:P.underlying kt=some d)(hz:P.info? el=some i)(hz':i.zero=some z)(hc:∀ι,c.cell.rel ι z)(hx:e x= .c (.mp b))(hi:e ix= .c (.val k))(hm:M[b]?=some (.row own (.mp es)))(hes:Keyed d es)(hk:IsKey d k)(hn:∀p∈es,p.1≠k):Ev P (.op (.lookup t x ix true) e M) (.val (.tup [.c c.cell,.c (.val (.bool false))]) M):=
 Ev.sem fun O ι w ρ hO hR hρ=>by
  obtain ⟨dst,op,ty,pos,af,gd⟩:=O
  subst hO
  have h1:=hρ x (by simp [Op.operands])
  have h2:=hρ ix (by simp [Op.operands])
  rw [hx] at h1;rw [hi] at h2
  obtain ⟨l,ents,clock,hl,hv,hh,he⟩:=nU hR hm h1
  have g1:=ev (w:=w) hd hes he hk hn
  have h2:ρ ix=k:=h2
  refine .inl ⟨.tuple #[z,.bool false],w,ι,.inl ?_,?_,Step.refl hR (Nat.le_refl _)⟩
  ·simp [execOp,Instr.lookup,run_underlying ht,hv,h2,Go.MapKept.run_getObj_map hh,run_checkKey hd hk,g1,zeroValue,typeInfo,hz,hz']
  ·refine ⟨_,rfl,rfl,fun i x u hx hu=>?_⟩
   match i with
   |0=>simp at hx hu;subst hx;subst hu;exact hc ι
   |1=>simp at hx hu;subst hx;subst hu;exact rfl
   |i+2=>simp at hx
theorem mo(ht:P.underlying t=some (.map kt el))(hd:P.underlying kt=some d)(hx:e x= .c (.mp b))(hi:e ix= .c (.val k))(hy:e y= .c c.cell)(hm:M[b]?=some (.row true (.mp es)))(hes:Keyed d es)(hk:IsKey d k)(hn:∀p∈es,p.1≠k)(hM:M.set b (.row true (.mp (es++[(k,c)])))=M'):Ev P (.op (.mapUpdate t x ix y) e M) (.val (.c .any) M'):=
 Ev.sem fun O ι w ρ hO hR hρ=>by
  obtain ⟨dst,op,ty,pos,af,gd⟩:=O
  subst hO;subst hM
  have h1:=hρ x (by simp [Op.operands])
  have h2:=hρ ix (by simp [Op.operands])
  have h3:=hρ y (by simp [Op.operands])
  rw [hx] at h1;rw [hi] at h2;rw [hy] at h3
  obtain ⟨l,ents,clock,hl,hv,hh,he⟩:=nU hR hm h1
  have g1:=ev (w:=w) hd hes he hk hn
  have h2:ρ ix=k:=h2
  refine .inl ⟨undef,_,ι,.inr ⟨?_,rfl⟩,trivial,AAH (Nat.le_refl _) hR hl hm (ents:=ents.push ⟨k,ρ y,clock⟩) (clock:=clock+1) ⟨by simp [he.1],fun i p hp=>?_⟩⟩
  ·simp [execOp,Instr.mapUpdate,run_underlying ht,hv,h2,Go.MapKept.run_getObj_map hh,run_checkKey hd hk,g1,Go.MapKept.run_setObj_map _ hh]
  ·by_cases hi:i<es.length
   ·rw [List.getElem?_append_left hi] at hp
    obtain ⟨e,k1,k2⟩:=he.2 i p hp
    exact ⟨e,by rw [Array.getElem?_push,if_neg (by rw [he.1];omega)];exact k1,k2⟩
   ·rw [List.getElem?_append_right O_] at hp
    have:i=es.length:=by
     have:=(List.getElem?_eq_some_iff.1 hp).1
     simp at this;omega
    subst this
    simp at hp;subst hp
    exact ⟨⟨k,ρ y,clock⟩,by rw [Array.getElem?_push,if_pos he.1.symm],rfl,h3⟩
end
end Go.Proofs.YtmbepikkgkcgkaaGreatDoor
namespace Go.Proofs.YtmbepikkgkcgkaaGreatDoor
open Go.RowKit
variable {g r : Prop}
open Go.Proofs.Tryz
section
variable {P:Program} {k N:Nat} {ops:Array Oper} {d:Nat} {ty:TypeId} {pos:String} {af:Array Edge} {l0:List Oper} {T:Nat→AV} {M M':Az} {K:St→Prop} {t t' el:TypeId} {x i a s:Operand}
theorem cK{y:AA 8}{n:Nat}(hx:AF T x= .c (.bs y))(hu:P.underlying t=some (.slice el))(hn:y.length=n):AS P (AF T) M (.call { callee:= .builtin .len,args:= #[x],argTypes:= #[t] })=some (.c (.val (.int .i64 (n:Int)))):=by
 subst hn
 show Vr P t (AF T x)=_
 rw [hx];simp [Vr,Eh,hu]
theorem qL{y:List Int}{n:Nat}(hx:AF T x= .c (.is y))(hu:P.underlying t=some (.slice el))(hn:y.length=n):AS P (AF T) M (.call { callee:= .builtin .len,args:= #[x],argTypes:= #[t] })=some (.c (.val (.int .i64 (n:Int)))):=by
 subst hn
 show Vr P t (AF T x)=_
 rw [hx];simp [Vr,Eh,hu]
theorem AA4{lo hi:Option Operand}{y:AA 8}{l h:Nat}(hx:AF T x= .c (.bs y))(hu:P.underlying t=some (.slice el))(hs:EM P el=some 1)(hl:US 0 (lo.map (AF T))=some (l:Int))(hh:US y.length (hi.map (AF T))=some (h:Int))(h1:l≤h)(h2:h≤y.length):AS P (AF T) M (.slice t x lo hi none)=some (.c (.bs (cut y l (h-l)))):=by
 show Jv P M t (AF T x) (lo.map (AF T)) (hi.map (AF T))=_
 rw [hx]
 simp only [Jv,hu,hl,hh]
 rw [if_pos ⟨hs,by omega,by omega,by omega⟩]
 congr 4
 omega
theorem Xj{lo:Operand}{y:AA 8}{l:Nat}{kd:IntKind}(hx:AF T x= .c (.bs y))(hl:AF T lo= .c (.val (.int kd (l:Int))))(hu:P.underlying t=some (.slice el))(hs:EM P el=some 1)(h2:l≤y.length):AS P (AF T) M (.slice t x (some lo) none none)=some (.c (.bs (y.drop l))):=by
 rw [AA4 (l:=l) (h:=y.length) hx hu hs (by simp [US,HD,hl]) rfl h2 (Nat.le_refl _)]
 congr 3
 unfold cut
 rw [List.take_of_length_le (by simp)]
theorem qe{hi:Operand}{y:AA 8}{h:Nat}{kd:IntKind}(hx:AF T x= .c (.bs y))(hh:AF T hi= .c (.val (.int kd (h:Int))))(hu:P.underlying t=some (.slice el))(hs:EM P el=some 1)(h2:h≤y.length):AS P (AF T) M (.slice t x none (some hi) none)=some (.c (.bs (y.take h))):=by
 rw [AA4 (l:=0) (h:=h) hx hu hs rfl (by simp [US,HD,hh]) (Nat.zero_le _) h2]
 rfl
theorem aG{y:AA 8}{kd:IntKind}{j:Nat}(hx:AF T x= .c (.bs y))(hi:AF T i= .c (.val (.int kd (j:Int))))(hu:P.underlying t=some (.slice el))(hs:EM P el=some 1)(h0:j<y.length):AS P (AF T) M (.indexAddr t x i)=some (.c (.qb y j)):=by
 show JN P t (AF T x) (AF T i)=_
 rw [hx,hi]
 have h1:(0:Int)≤(j:Int)∧(j:Int)<(y.length:Int):=by omega
 simp only [JN,hu,HD,hs,h1,and_self,if_true,Int.toNat_natCast]
theorem bD{y:List Int}{kd:IntKind}{j:Nat}(hx:AF T x= .c (.is y))(hi:AF T i= .c (.val (.int kd (j:Int))))(hu:P.underlying t=some (.slice el))(hs:EM P el=some 1)(h0:j<y.length):AS P (AF T) M (.indexAddr t x i)=some (.c (.qi y j)):=by
 show JN P t (AF T x) (AF T i)=_
 rw [hx,hi]
 have h1:(0:Int)≤(j:Int)∧(j:Int)<(y.length:Int):=by omega
 simp only [JN,hu,HD,hs,h1,and_self,if_true,Int.toNat_natCast]
theorem WU{y:AA 8}{j:Nat}(ha:AF T a= .c (.qb y j))(hr:BX P t=some false)(h:j<y.length):AS P (AF T) M (.load t a)=some (.c (.val (U8 (nth y j)))):=by
 simp only [AS,ha,G4,hr,Arr.size,h,if_true,Arr.get]
theorem MP{y:List Int}{j:Nat}(ha:AF T a= .c (.qi y j))(hr:BX P t=some false)(h:j<y.length):AS P (AF T) M (.load t a)=some (.c (.val (.int .i64 (DU y j)))):=by
 simp only [AS,ha,G4,hr,Arr.size,h,if_true,Arr.get]
theorem iR{b o:Nat}{own:Bool}{y:List (AA 8)}(ha:AF T a= .c (.ptr b o))(hm:M[b]?=some (.row own (.ab y)))(hr:BX P t=some false)(ho:o<y.length):AS P (AF T) M (.load t a)=some (.c (.bs (O6 y o))):=
 DR ha hm hr ho rfl
theorem rP{b o:Nat}{own:Bool}{y:List Bool}(ha:AF T a= .c (.ptr b o))(hm:M[b]?=some (.row own (.bl y)))(hr:BX P t=some false)(ho:o<y.length):AS P (AF T) M (.load t a)=some (.c (.val (.bool (T7 y o)))):=
 DR ha hm hr ho rfl
theorem zi{b o j:Nat}{own:Bool}{y:List Nd}(ha:AF T a= .c (.ptr b o))(hj:o=j*3)(hm:M[b]?=some (.row own (.an y)))(hr:BX P t=some true)(hs:EM P t=some 3)(h:j<y.length):Ev P (.op (.load t a) (AF T) M) (.val (.agg (.ac [.val (.int .i64 (DY y j).k),.val (.int .i64 (DY y j).n),.is (DY y j).a])) M):=by
 subst hj
 have h3:j*3+3≤Arr.size (.an y):=by show _≤3*y.length;omega
 have hv:AS P (AF T) M (.load t a)=some (.agg (H2 (.an y) (j*3) 3)):=by simp [AS,ha,hm,G4,hr,hs,h3]
 refine Ev.opPost (Ev.val hv) fun ι w u hk hR hu=>⟨ι,?_,Step.refl hR hk⟩
 obtain ⟨cs,rfl,g1,g2⟩:=hu
 have hsz:(H2 (.an y) (j*3) 3).size=3:=KT h3
 refine ⟨cs,rfl,g1.trans hsz,fun i hi=>?_⟩
 have hi:i<3:=hi
 obtain ⟨v,e1,e2⟩:=g2 i O_
 refine ⟨v,e1,?_⟩
 rw [Sg hi h3] at e2
 rcases (by omega:i=0∨i=1∨i=2) with e | e | e<;>subst e
 ·rw [show (Arr.an y).get (j*3+0)= .val (.int .i64 (DY y j).k) by simp only [Arr.get];rw [show (j*3+0)/3=j by omega,show (j*3+0)%3=0 by omega];rfl] at e2
  exact e2
 ·rw [show (Arr.an y).get (j*3+1)= .val (.int .i64 (DY y j).n) by simp only [Arr.get];rw [show (j*3+1)/3=j by omega,show (j*3+1)%3=1 by omega];rfl] at e2
  exact e2
 ·rw [show (Arr.an y).get (j*3+2)= .is (DY y j).a by simp only [Arr.get];rw [show (j*3+2)/3=j by omega,show (j*3+2)%3=2 by omega];rfl] at e2
  exact e2
theorem qs{b o j:Nat}{own:Bool}{y:List Nd}(ha:AF T a= .c (.ptr b o))(hj:o=j*3)(hm:M[b]?=some (.row own (.an y)))(hr:BX P t=some false)(h:j<y.length):AS P (AF T) M (.load t a)=some (.c (.val (.int .i64 (DY y j).k))):=
 DR ha hm hr (by show _<3*y.length;omega) (by simp only [Arr.get];rw [show o/3=j by omega,show o%3=0 by omega];rfl)
theorem AKF{b o j:Nat}{own:Bool}{y:List Nd}(ha:AF T a= .c (.ptr b o))(hj:o=j*3+2)(hm:M[b]?=some (.row own (.an y)))(hr:BX P t=some false)(h:j<y.length):AS P (AF T) M (.load t a)=some (.c (.is (DY y j).a)):=
 DR ha hm hr (by show _<3*y.length;omega) (by simp only [Arr.get];rw [show o/3=j by omega,show o%3=2 by omega];rfl)
theorem ACV{y:AA 8}{by' n m:Nat}{e2:TypeId}(hs:AF T s= .c .esl)(hx:AF T x= .c (.bs y))(hu:P.underlying t=some (.slice el))(hu2:P.underlying t'=some (.slice e2))(he:CH P el=some (1,by'))(hl:y.length=n)(hb:n*by'≤140737488355328∧n≤9223372036854775807)(hn:M.length=m):
  DK P (AF T) M (.call { callee:= .builtin .append,args:= #[s,x],argTypes:= #[t,t'] })=some (.c (.sl m 0 n n 1),M++[.row true (.a8 y)]):=by
 show B3 P M t t' (AF T s) (AF T x)=_
 subst hn;subst hl
 rw [hs,hx]
 simp [B3,hu,HE,hu2,he,G5,Arr.one,hb.1,hb.2]
theorem AFV{y u:AA 8}{by' n m b0 len cap:Nat}{e2:TypeId}(hs:AF T s= .c (.sl b0 0 len cap 1))(hms:M[b0]?=some (.row true (.a8 u)))(hx:AF T x= .c (.bs y))(hu:P.underlying t=some (.slice el))(hu2:P.underlying t'=some (.slice e2))(he:CH P el=some (1,by'))
  (hlu:u.length=len) (hl:y.length=n) (hb:(len+n)*by'≤140737488355328∧len+n≤9223372036854775807∧n*by'≤140737488355328) (hn:M.length=m) (hM:M.set b0 .dead++[.row true (.a8 (u++y))]=M') (hd:decide (d<N)=true) (hk:WO P k ops l0 ⟨N,upd T d (.c (.sl m 0 (len+n) (len+n) 1)),M'⟩ K):
  WO P k ops (⟨some d,.call { callee:= .builtin .append,args:= #[s,x],argTypes:= #[t,t'] },ty,pos,af,none⟩::l0) ⟨N,T,M⟩ K:=
 UZ (by
  show B3 P M t t' (AF T s) (AF T x)=_
  subst hn;subst hM;subst hl
  rw [hs,hx]
  have hz2:Arr.size (.a8 u)=len:=hlu
  have hn9:y.length≤9223372036854775807:=by omega
  simp [B3,hu,HE,hu2,he,G5,hms,hz2,H2,Arr.one,Arr.app,hb.1,hb.2.1,hb.2.2,hn9]) hd hk
theorem AFf{y:AA 8}{u:List (AA 8)}{by' m b0 len cap b c:Nat}{own:Bool}{e2:TypeId}(hs:AF T s= .c (.sl b0 0 len cap 1))(hms:M[b0]?=some (.row true (.ab u)))(hx:AF T x= .c (.sl b 0 1 c 1))(hm:M[b]?=some (.row own (.ac [.bs y])))(hu:P.underlying t=some (.slice el))(hu2:P.underlying t'=some (.slice e2))(he:CH P el=some (1,by'))
  (hlu:u.length=len) (hb:(len+1)*by'≤140737488355328∧len+1≤9223372036854775807∧by'≤140737488355328) (hn:M.length=m) (hM:M.set b0 .dead++[.row true (.ab (u++[y]))]=M') (hd:decide (d<N)=true) (hk:WO P k ops l0 ⟨N,upd T d (.c (.sl m 0 (len+1) (len+1) 1)),M'⟩ K):
  WO P k ops (⟨some d,.call { callee:= .builtin .append,args:= #[s,x],argTypes:= #[t,t'] },ty,pos,af,none⟩::l0) ⟨N,T,M⟩ K:=
 UZ (by
  show B3 P M t t' (AF T s) (AF T x)=_
  subst hn;subst hM
  rw [hs,hx]
  have hz2:Arr.size (.ab u)=len:=hlu
  have hz:Arr.size (.ac [.bs y])=1:=rfl
  simp [B3,hu,HE,hu2,he,G5,hm,hms,hz,hz2,H2,Arr.one,Cell.one,Arr.app,hb.1,hb.2.1,hb.2.2]) hd hk
end
theorem fM{k:Nat}{ι:Emb}{M:Az}{w:World}{b:Nat}{own:Bool}{x y:Arr}(hk:k≤M.length)(hR:R ι M w)(hm:M[b]?=some (.row own x))(hx:x.isMap=false)(hy:y.isMap=false)(hs:y.size=x.size)(hg:∀(ι:Emb) i v,i<x.size→(x.get i).rel ι v→(y.get i).rel ι v)(hb:own=false→k≤b):Step k ι M w ι (M.set b (.row own y)) w:=by
 have src:∀ {i:Nat} {o:Bool} {z:Arr},(M.set b (.row own y))[i]?=some (.row o z)→ ∃z0,M[i]?=some (.row o z0)∧(i=b∧z=y∧z0=x∨i≠b∧z0=z):=fun {i o z} h=>by
  rcases C0 h with ⟨h1,h2⟩ | ⟨rfl,h2⟩
  ·exact ⟨z,h2,.inr ⟨h1,rfl⟩⟩
  ·cases h2;exact ⟨x,hm,.inl ⟨rfl,rfl,rfl⟩⟩
 refine Step.make hR (fun b hb=>hR.dom b (by simpa using hb)) (fun i l o z h1 h2=>?_) (fun i i' l l' o o' z z' hne h1 h2 h3 h4 ho=>?_) ⟨rfl,rfl,rfl,Nat.le_refl _,fun _ _ _=>rfl,fun c hc=>?_⟩ rfl (fun _ _=>rfl) (by simpa using hk) (fun i z hi h=>?_) (fun i o z hi h=>?_) (fun i l o z hi h1 h2=>?_)
 ·obtain ⟨z0,h3,h4⟩:=src h2
  rcases h4 with ⟨rfl,rfl,rfl⟩ | ⟨_,rfl⟩
  ·obtain ⟨cs,t,fr,k1,k2,k3,k4⟩:=hR.cells h1 h3 hx
   refine .of hy ⟨cs,t,fr,k1,by rw [hs];exact k2,fun j hj=>?_,k4⟩
   rw [hs] at hj
   obtain ⟨v,e1,e2⟩:=k3 j hj
   exact ⟨v,e1,hg _ _ _ hj e2⟩
  ·exact hR.rows i l o z0 h1 h3
 ·obtain ⟨z0,h5,_⟩:=src h3
  obtain ⟨z0',h6,_⟩:=src h4
  exact hR.inj i i' l l' o o' z0 z0' hne h1 h2 h5 h6 ho
 ·obtain ⟨i,l,z,h1,h2,rfl⟩:=hc
  obtain ⟨z0,h3,_⟩:=src h2
  exact .inr ⟨i,l,z0,h1,h3,rfl⟩
 ·by_cases e:i=b
  ·subst e
   rw [hm] at h
   cases h
   have:=hb rfl
   omega
  ·rw [List.getElem?_set_ne (fun h=>e h.symm)];exact h
 ·obtain ⟨z0,h3,_⟩:=src h
  exact ⟨z0,h3⟩
 ·obtain ⟨z0,h3,_⟩:=src h2
  exact .inr (.inr ⟨i,l,o,z0,hi,h1,h3,rfl⟩)
section
variable {P:Program} {k N:Nat} {c:Code} {T:Nat→AV} {M M':Az} {Φ:Ex→St→Prop}
end
section
variable {P:Program} {T:Nat→AV} {M:Az} {t t':TypeId} {x y:Operand}
theorem AKs{a:Nat}{kd:IntKind}{j:Nat}(hj:j≤63)(h:a*2^j≤9223372036854775807):binOp .shl t (.int .i64 (a:Int)) (.int kd (j:Int))=(pure (.int .i64 ((a*2^j:Nat):Int)):Sem Value):=by
 have h0:¬(j:Int)<0:=by omega
 have e:((a:Int)*2^j)=((a*2^j:Nat):Int):=by rw [Int.natCast_mul,Int.natCast_pow];rfl
 have hm:min j IntKind.i64.bits=j:=Nat.min_eq_left (by show j≤64;omega)
 show Op.shift .shl .i64 (a:Int) kd (j:Int)=_
 simp only [Op.shift,h0,if_false,Int.toNat_natCast,hm,e]
 rw [IntWalk.i64_in _ O_]
theorem jg{a:Nat}{kd:IntKind}{j:Nat}(hx:AF T x= .c (.val (.int .i64 (a:Int))))(hy:AF T y= .c (.val (.int kd (j:Int))))(hj:j≤63)(h:a*2^j≤9223372036854775807):AS P (AF T) M (.binOp .shl t x y t')=some ((.c (.val (.int .i64 ((a*2^j:Nat):Int))))):=
 CG hx hy (AKs hj h)
theorem orN{a b:Nat}(ha:a<2^63)(hb:b<2^63):binOp .or t (.int .i64 (a:Int)) (.int .i64 (b:Int))=(pure (.int .i64 ((a ||| b:Nat):Int)):Sem Value):=by
 have h:a ||| b<2^63:=Nat.or_lt_two_pow ha hb
 have e:(BitVec.ofInt 64 (a:Int) ||| BitVec.ofInt 64 (b:Int)).toNat=a ||| b:=by
  rw [BitVec.toNat_or,BitVec.ofInt_natCast,BitVec.ofInt_natCast,BitVec.toNat_ofNat,BitVec.toNat_ofNat,Nat.mod_eq_of_lt O_,Nat.mod_eq_of_lt O_]
 show (pure (Value.int .i64 (IntKind.i64.wrap ((BitVec.ofInt 64 (a:Int) ||| BitVec.ofInt 64 (b:Int)).toNat:Nat))):Sem Value)=_
 rw [e,IntWalk.i64_in _ O_]
theorem rm{a b:Nat}(hx:AF T x= .c (.val (.int .i64 (a:Int))))(hy:AF T y= .c (.val (.int .i64 (b:Int))))(ha:a<2^63)(hb:b<2^63):AS P (AF T) M (.binOp .or t x y t')=some ((.c (.val (.int .i64 ((a ||| b:Nat):Int))))):=
 CG hx hy (orN ha hb)
end
section
variable {P:Program} {k:Nat} {c:Code} {s0:St} {Φ:Ex→St→Prop}
def AFo(k:Nat)(keep:List Nat){σ:Type}(I:σ→St)(μ:σ→Nat)(inv:σ→Prop)(y:σ)(Φ:Ex→St→Prop):Ex→St→Prop
 |.normal,s=> ∃x,clean k keep s=some (I x)∧μ x<μ y∧inv x
 |e,s=>Φ e s
theorem Q2(keep:List Nat){σ:Type}(I:σ→St)(μ:σ→Nat)(inv:σ→Prop)(y0:σ)(h0:clean k keep s0=some (I y0))(hi:inv y0)(hstep:∀y,inv y→WC P k c (I y) (AFo k keep I μ inv y Φ)):WC P k (.loop c) s0 Φ:=by
 refine ZK keep h0 ?_;have key:∀n y,μ y≤n→inv y→WC P k (.loop c) (I y) Φ:=by
  intro n
  induction n with
  |zero=>
   intro y hn hy
   obtain ⟨e,r,h1,h2⟩:=(hstep y hy).h
   cases e with
   |normal=>obtain ⟨x,_,h4,_⟩:=h2;omega
   |exit id=>exact ⟨⟨_,r,Ev.loopx h1 (by simp),h2⟩⟩
   |ret=>exact ⟨⟨_,r,Ev.loopx h1 (by simp),h2⟩⟩
  |succ n ih=>
   intro y hn hy
   obtain ⟨e,r,h1,h2⟩:=(hstep y hy).h
   cases e with
   |normal=>
    obtain ⟨x,h3,h4,h5⟩:=h2
    obtain ⟨e',r',h6,h7⟩:=(ih x O_ h5).h
    exact ⟨⟨e',r',Ev.loop h1 (Ev.clean keep h3 h6),h7⟩⟩
   |exit id=>exact ⟨⟨_,r,Ev.loopx h1 (by simp),h2⟩⟩
   |ret=>exact ⟨⟨_,r,Ev.loopx h1 (by simp),h2⟩⟩
 exact key _ y0 (Nat.le_refl _) hi
end
theorem pn{k:Nat}{ι:Emb}{M:Az}{w w':World}{b:Nat}{l:Loc}{x:Arr}(hk:k≤M.length)(hR:R ι M w)(hb:ι b=some l)(hm:M[b]?=some (.row true x))(ho:w'.os=w.os)(ht:w'.tape=w.tape)(hu:w'.output=w.output)(hsz:w'.heap.size=w.heap.size)(hoth:∀c,c≠l.c→w'.heap[c]?=w.heap[c]?):
  Step k ι M w ⟨ι.f,fun c o v=>ι.tx c o v∨(c=l.c∧ ∃cs t fr,w'.heap[c]?=some (.cells cs t fr)∧cs[o]?=some v)⟩ (M.set b .dead) w':=by
 have hown:Dv ι M l.c:=⟨b,l,x,hb,hm,rfl⟩
 have hle:ι.le ⟨ι.f,fun c o v=>ι.tx c o v∨(c=l.c∧ ∃cs t fr,w'.heap[c]?=some (.cells cs t fr)∧cs[o]?=some v)⟩:=⟨fun _ _ h=>h,fun _ _ _ h=> .inl h⟩
 have src:∀ {i:Nat} {own:Bool} {y:Arr},(M.set b .dead)[i]?=some (.row own y)→i≠b∧M[i]?=some (.row own y):=fun {i own y} h=>by
  rcases C0 h with ⟨h1,h2⟩ | ⟨_,h2⟩
  ·exact ⟨h1,h2⟩
  ·cases h2
 have apart:∀ {i:Nat} {l1:Loc} {own:Bool} {z:Arr},i≠b→ι i=some l1→M[i]?=some (.row own z)→l1.c≠l.c:=fun hne h1 k1=>hR.inj _ b _ l _ true _ x hne h1 hb k1 hm (.inr rfl)
 have keep:∀c,c<w.heap.size→ ¬Dv ι M c→w'.heap[c]?=w.heap[c]?:=fun c _ hn=>hoth c (fun e=>hn (by rw [e];exact hown))
 have fresh:∀c,Dv ι (M.set b .dead) c→w.heap.size≤c∨Dv ι M c:=fun c ⟨i,l1,y,h1,h2,h3⟩=> .inr ⟨i,l1,y,h1,(src h2).2,h3⟩
 refine ⟨⟨fun i hi=>hR.dom i (by simpa using hi),fun i l1 own y h1 h2=>?_,fun i i' l1 l1' own own' y y' hne h1 h2 h3 h4 ho=>?_,fun c Φ hc=>?_⟩,⟨ho,ht,hu,Nat.le_of_eq hsz.symm,keep,fun c hc=>fresh c hc⟩,fun _ _ _ h=> .inl h,fun c o v hc=>?_,fun _ _=>rfl,by simpa using hk,fun i y hi h=>?_,fun i own y hi h=>⟨y,(src h).2⟩,fun i l1 own y hi h1 h2=> .inr (.inr ⟨i,l1,own,y,hi,h1,(src h2).2,rfl⟩)⟩
 ·obtain ⟨hne,h3⟩:=src h2
  exact (hR.rows i l1 own y h1 h3).heap (hoth _ (apart hne h1 h3)) hle
 ·exact hR.inj i i' l1 l1' own own' y y' hne h1 h2 (src h3).2 (src h4).2 ho
 ·cases hc with
  |base kb=>exact Mi hR keep fresh c Φ (.base kb)
  |tx hc=>
   rcases hc with hc | ⟨rfl,cs,t,fr,h1,h2⟩
   ·exact Mi hR keep fresh c _ (.tx hc)
   ·refine ⟨⟨_,h1,cs,t,fr,rfl,h2⟩,fun i l' y h3 h4=>?_⟩
    obtain ⟨h5,h6⟩:=src h4
    exact apart h5 h3 h6
 ·rcases hc with hc | ⟨rfl,_⟩
  ·exact .inl hc
  ·exact .inr (.inr hown)
 ·rw [List.getElem?_set_ne (fun e=>by subst e;rw [hm] at h;cases h)];exact h
theorem oK{ι:Emb}{M:Az}{w w':World}(hR:R ι M w){cs:Array Value}{t:TypeId}(hh:w'.heap=w.heap.push (.cells cs t (0,0)))(ho:w'.os=w.os)(ht:w'.tape=w.tape)(hu:w'.output=w.output):
  Step M.length ι M w ⟨ι.f,fun c o v=>ι.tx c o v∨(c=w.heap.size∧cs[o]?=some v)⟩ M w':=by
 have old:∀c,c<w.heap.size→w'.heap[c]?=w.heap[c]?:=fun c hc=>by rw [hh,Array.getElem?_push,if_neg O_]
 have hle:ι.le ⟨ι.f,fun c o v=>ι.tx c o v∨(c=w.heap.size∧cs[o]?=some v)⟩:=⟨fun _ _ h=>h,fun _ _ _ h=> .inl h⟩
 have keep:∀c,c<w.heap.size→ ¬Dv ι M c→w'.heap[c]?=w.heap[c]?:=fun c hc _=>old c hc
 refine ⟨⟨hR.dom,fun i l own y h1 h2=>(hR.rows i l own y h1 h2).heap (old _ (hR.lt h1 h2)) hle,hR.inj,fun c Φ hc=>?_⟩,⟨ho,ht,hu,by rw [hh];simp,keep,fun c hc=> .inr hc⟩,fun _ _ _ h=> .inl h,fun c o v hc=>?_,fun _ _=>rfl,Nat.le_refl _,fun _ _ _ h=>h,fun _ _ x _ h=>⟨x,h⟩,fun b l own x hb h1 h2=>(Kd hb h2).elim⟩
 ·cases hc with
  |base kb=>exact Mi hR keep (fun c hc=> .inr hc) c Φ (.base kb)
  |tx hc=>
   rcases hc with hc | ⟨rfl,h2⟩
   ·exact Mi hR keep (fun c hc=> .inr hc) c _ (.tx hc)
   ·exact ⟨⟨_,by rw [hh,Array.getElem?_push,if_pos rfl],cs,t,(0,0),rfl,h2⟩,fun b l x h1 h3 e=>by have:=hR.lt h1 h3;omega⟩
 ·rcases hc with hc | ⟨rfl,_⟩
  ·exact .inl hc
  ·exact .inr (.inl (Nat.le_refl _))
def be(n:Nat)(ι:Emb):Emb:=⟨fun b=>if b<n then ι b else none,ι.tx⟩
def bR(n b:Nat):Option Nat:=if b<n then some b else none
theorem lq(n:Nat)(ι:Emb):Same (bR n) ι (be n ι):=by
 refine ⟨fun b b' h=>?_,fun _ _ _ h=>h⟩
 unfold bR at h
 split at h
 ·rename_i hb
  cases h
  exact if_pos hb
 ·cases h
theorem uJ{n:Nat}{x:Arr}(h:x.refs.all (· <n)=true):x.ren (bR n)=x:=by
 cases x with
 |ac l=>
  simp only [Arr.refs,List.all_eq_true,List.mem_flatMap,decide_eq_true_eq] at h
  simp only [Arr.ren]
  congr 1
  conv=>rhs;rw [←List.map_id l]
  apply List.map_congr_left
  intro c hc
  have e:∀b,b<n→bR n b=some b:=fun b hb=>if_pos hb
  cases c with
  |ptr b o=>simp only [Cell.ren,e _ (h b ⟨_,hc,by simp [Cell.refs]⟩),id]
  |sl b o n c z=>simp only [Cell.ren,e _ (h b ⟨_,hc,by simp [Cell.refs]⟩),id]
  |mp b=>simp only [Cell.ren,e _ (h b ⟨_,hc,by simp [Cell.refs]⟩),id]
  |xs b n=>simp only [Cell.ren,e _ (h b ⟨_,hc,by simp [Cell.refs]⟩),id]
  |_=>rfl
 |_=>rfl
def kF(n:Nat)(M:Az):Bool:=M.all fun r=>r.refs.all (· <n)
theorem xL{k:Nat}{ι:Emb}{M N:Az}{w:World}(hk:k≤M.length)(hR:R ι (M++N) w)(hr:kF M.length M=true):Step k ι (M++N) w (be M.length ι) M w:=by
 have at_:∀ {b:Nat} {l:Loc},be M.length ι b=some l→b<M.length∧ι b=some l:=fun {b l} h=>by
  unfold be at h
  dsimp only at h
  split at h
  ·rename_i hb;exact ⟨hb,h⟩
  ·cases h
 have row:∀ {b:Nat} {own:Bool} {x:Arr},M[b]?=some (.row own x)→(M++N)[b]?=some (.row own x):=fun {b own x} h=>by
  rw [List.getElem?_append_left (List.getElem?_eq_some_iff.1 h).1];exact h
 have fresh:∀c,Dv (be M.length ι) M c→w.heap.size≤c∨Dv ι (M++N) c:=fun c ⟨b,l,x,h1,h2,h3⟩=> .inr ⟨b,l,x,(at_ h1).2,row h2,h3⟩
 refine ⟨⟨fun b hb=>if_neg O_,fun b l own x h1 h2=>?_,fun b b' l l' own own' x x' hne h1 h2 h3 h4 ho=>hR.inj b b' l l' own own' x x' hne (at_ h1).2 (at_ h2).2 (row h3) (row h4) ho,fun c Φ hc=>Mi hR (fun _ _ _=>rfl) fresh c Φ (hc.to ι)⟩,⟨rfl,rfl,rfl,Nat.le_refl _,fun _ _ _=>rfl,fresh⟩,fun _ _ _ h=>h,fun _ _ _ h=> .inl h,fun b hb=>if_pos O_,hk,fun b x hb h=>?_,fun b own x hb h=>⟨x,row h⟩,fun b l own x hb h1 h2=> .inr (.inr ⟨b,l,own,x,hb,(at_ h1).2,row h2,rfl⟩)⟩
 ·have h3:=(hR.rows b l own x (at_ h1).2 (row h2)).ren (lq M.length ι)
  have hx:x.refs.all (· <M.length)=true:=List.all_eq_true.1 hr _ (List.mem_of_getElem? h2)
  rwa [uJ hx] at h3
 ·rwa [List.getElem?_append_left O_] at h
end Go.Proofs.YtmbepikkgkcgkaaGreatDoor
