/- Merged and shortened by a program: part 9. -/
import Derived.Test.YtmbepikkgkcgkaaGreatDoorUR8
set_option maxRecDepth 100000
set_option maxHeartbeats 8000000
namespace Go.Proofs.YtmbepikkgkcgkaaGreatDoor
open Go.RowKit
variable {g r : Prop}
open Go.Proofs.Tryz
def Gt(b:AA 8):Nat→Nat
 |0=>0
 |n+1=>Gt b n+(nth b n).toNat*256^n
theorem Rq(b:AA 8)(n:Nat):Gt b n<256^n:=by
 induction n with
 |zero=>exact Nat.one_pos
 |succ n ih=>
  rw [Gt,Nat.pow_succ]
  have h:=(nth b n).isLt
  have:(nth b n).toNat*256^n≤255*256^n:=Nat.mul_le_mul_right _ O_
  omega
theorem XG(b:AA 8)(n i:Nat)(h:i<n):Gt b n/256^i%256=(nth b i).toNat:=by
 induction n with
 |zero=>omega
 |succ n ih=>
  rw [Gt]
  have hp:0<256^i:=Nat.pow_pos D_
  by_cases e:i=n
  ·subst e
   rw [Nat.add_mul_div_right _ _ hp,Nat.div_eq_of_lt (Rq b i),Nat.zero_add,Nat.mod_eq_of_lt (nth b i).isLt]
  ·obtain ⟨k,hk⟩:∃k,n=i+(k+1):=⟨n-i-1,by omega⟩
   rw [←ih O_,hk,Nat.pow_add,Nat.pow_succ,show (nth b (i+(k+1))).toNat*(256^i*(256^k*256))=((nth b (i+(k+1))).toNat*256^k*256)*256^i from by grobner,Nat.add_mul_div_right _ _ hp,Nat.add_mul_mod_self_right]
def kI(n:Nat):AA 8:=(List.range 32).map fun i=>BitVec.ofNat 8 (n/256^i)
@[simp] theorem N1(n:Nat):(kI n).length=32:=by simp [kI]
theorem Zp(n i:Nat)(h:i<32):nth (kI n) i=BitVec.ofNat 8 (n/256^i):=by
 rw [Qp _ _ (by rw [N1];exact h)]
 simp [kI]
theorem We(n k:Nat)(h:k≤32):Gt (kI n) k=n%256^k:=by
 induction k with
 |zero=>rw [Gt,Nat.pow_zero,Nat.mod_one]
 |succ k ih=>
  have e:= @Nat.mod_mul (256^k) 256 n
  rw [Gt,ih O_,Zp _ _ O_,BitVec.toNat_ofNat,show (256:Nat)^(k+1)=256^k*256 from Nat.pow_succ ..,e,Nat.mul_comm (256^k)]
theorem rc{b:AA 8}(h:b.length=32):kI (Gt b 32)=b:=by
 refine XC (by rw [N1,h]) fun i hi=>?_
 rw [N1] at hi
 rw [Zp _ _ hi]
 apply BitVec.eq_of_toNat_eq
 rw [BitVec.toNat_ofNat]
 exact XG b 32 i hi
def tK(b:AA 8)(t:Nat):Nat→Nat
 |0=>0
 |m+1=>tK b t m+(nth b (8*t+m)).toNat*256^m
theorem AHD(b:AA 8)(t m:Nat):tK b t m<256^m:=by
 induction m with
 |zero=>exact Nat.one_pos
 |succ m ih=>
  rw [tK,Nat.pow_succ]
  have h:=(nth b (8*t+m)).isLt
  have:(nth b (8*t+m)).toNat*256^m≤255*256^m:=Nat.mul_le_mul_right _ O_
  omega
theorem gI(b:AA 8):Gt b 32=tK b 0 8+tK b 1 8*18446744073709551616+tK b 2 8*340282366920938463463374607431768211456+tK b 3 8*6277101735386680763835789423207666416102355444464034512896:=by
 simp only [Gt,tK,Nat.mul_zero,Nat.zero_add,Nat.reduceMul,Nat.reduceAdd,Nat.reducePow]
 omega
theorem rf(x:BitVec 64)(b:BitVec 8)(k:Nat)(hk:k<8)(hx:x.toNat<256^k):(x ||| (b.setWidth 64<<<(8*k))).toNat=x.toNat+b.toNat*256^k:=by
 have e:(256:Nat)^k=2^(8*k):=by rw [Nat.pow_mul]
 rw [e] at hx ⊢
 have hb:=b.isLt
 have hp:b.toNat*2^(8*k)<2^64:=by
  have h1:b.toNat*2^(8*k)<2^8*2^(8*k):=Nat.mul_lt_mul_of_pos_right hb (Nat.pow_pos D_)
  rw [←Nat.pow_add] at h1
  exact Nat.lt_of_lt_of_le h1 (Nat.pow_le_pow_right D_ O_)
 rw [BitVec.toNat_or,BitVec.toNat_shiftLeft,BitVec.toNat_setWidth,Nat.mod_eq_of_lt (show b.toNat<2^64 by omega),Nat.shiftLeft_eq,Nat.mod_eq_of_lt hp,Nat.or_comm,←Nat.shiftLeft_eq,←Nat.shiftLeft_add_eq_or_of_lt hx,Nat.shiftLeft_eq,Nat.add_comm]
theorem FH(x:BitVec 64):(x&&&2251799813685247#64).toNat=x.toNat%2251799813685248:=by
 rw [BitVec.toNat_and]
 exact Nat.and_two_pow_sub_one_eq_mod x.toNat 51
end Go.Proofs.YtmbepikkgkcgkaaGreatDoor
namespace Go.Proofs.YtmbepikkgkcgkaaGreatDoor
variable {g r : Prop}
open Go.Proofs.Tryz
def Rf(p:Nat):Prop:=1<p∧ ∀m,m ∣ p→m=1∨m=p
theorem Rf.pos{p:Nat}(h:Rf p):0<p:=by have:=h.1;omega
theorem Rf.cop{p a:Nat}(h:Rf p)(ha:¬p ∣ a):Nat.gcd p a=1:=by
 rcases h.2 _ (Nat.gcd_dvd_left p a) with h1 | h1
 ·exact h1
 ·exact absurd (h1 ▸ Nat.gcd_dvd_right p a) ha
theorem Rf.euclid{p a b:Nat}(h:Rf p)(hd:p ∣ a*b):p ∣ a∨p ∣ b:=by
 by_cases ha:p ∣ a
 ·exact .inl ha
 ·exact .inr (Nat.Coprime.dvd_of_dvd_mul_left (h.cop ha) hd)
def aV:Nat→Nat→Nat
 |_,0=>1
 |0,_+1=>0
 |n+1,k+1=>aV n k+aV n (k+1)
theorem Wd(n:Nat):aV n 0=1:=by cases n<;>rfl
theorem rI:∀n k:Nat,n<k→aV n k=0:=by
 intro n
 induction n with
 |zero=>intro k hk;cases k with
  |zero=>omega
  |succ k=>rfl
 |succ n ih=>intro k hk;cases k with
  |zero=>omega
  |succ k=>rw [aV,ih k O_,ih (k+1) O_]
theorem AAj(n:Nat):aV n n=1:=by
 induction n with
 |zero=>rfl
 |succ n ih=>rw [aV,ih,rI n (n+1) O_]
theorem ADL:∀n k:Nat,(k+1)*aV (n+1) (k+1)=(n+1)*aV n k:=by
 intro n
 induction n with
 |zero=>
  intro k
  cases k with
  |zero=>rfl
  |succ k=>simp [aV]
 |succ n ih=>
  intro k
  cases k with
  |zero=>
   have h:=ih 0
   rw [Wd] at h ⊢
   show (0+1)*(aV (n+1) 0+aV (n+1) (0+1))=_
   rw [Wd]
   omega
  |succ k=>
   have h1:=ih k
   have h2:=ih (k+1)
   rw [aV,Nat.mul_add,h2]
   have h3:aV (n+1) (k+1)=aV n k+aV n (k+1):=rfl
   rw [h3] at h1 ⊢
   grind
def VN(a n:Nat):Nat→Nat
 |0=>0
 |m+1=>VN a n m+aV n m*a^m
theorem um(a n:Nat):∀m,VN a (n+1) (m+1)=VN a n (m+1)+a*VN a n m:=by
 intro m
 induction m with
 |zero=>simp [VN,Wd]
 |succ m ih=>
  rw [VN,ih]
  show _=VN a n (m+1)+aV n (m+1)*a^(m+1)+a*(VN a n m+aV n m*a^m)
  rw [aV,Nat.pow_succ]
  grind
theorem AJQ(a n:Nat):(a+1)^n=VN a n (n+1):=by
 induction n with
 |zero=>rfl
 |succ n ih=>
  rw [Nat.pow_succ,ih,um]
  rw [show VN a n (n+1+1)=VN a n (n+1)+aV n (n+1)*a^(n+1) from rfl,rI n (n+1) O_]
  grind
theorem ABr{p:Nat}(h:Rf p)(k:Nat)(h1:0<k)(h2:k<p):p ∣ aV p k:=by
 obtain ⟨q,rfl⟩:∃q,p=q+1:=⟨p-1,by omega⟩
 obtain ⟨j,rfl⟩:∃j,k=j+1:=⟨k-1,by omega⟩
 have:=ADL q j
 rcases h.euclid (a:=j+1) (b:=aV (q+1) (j+1)) (by rw [this];exact Nat.dvd_mul_right _ _) with h3 | h3
 ·have:=Nat.le_of_dvd O_ h3;omega
 ·exact h3
theorem zl{p:Nat}(h:Rf p)(a:Nat):∀m,m<p→VN a p (m+1)%p=1%p:=by
 intro m
 induction m with
 |zero=>intro _;simp [VN,Wd]
 |succ m ih=>
  intro hm
  obtain ⟨c,hc⟩:=ABr h (m+1) O_ hm
  rw [VN,hc,Nat.mul_assoc,Nat.add_mul_mod_self_left,ih O_]
theorem AHW{p:Nat}(h:Rf p)(a:Nat):a^p%p=a%p:=by
 induction a with
 |zero=>rw [Nat.zero_pow h.pos]
 |succ a ih=>
  obtain ⟨q,rfl⟩:∃q,p=q+1:=⟨p-1,by have:=h.pos;omega⟩
  rw [AJQ,VN,AAj,Nat.one_mul,Nat.add_mod,zl h a q O_,ih,←Nat.add_mod,Nat.add_comm]
theorem oY{p x y:Nat}(h:x%p=y%p):p ∣ x-y:=Nat.dvd_of_mod_eq_zero (Nat.sub_mod_eq_zero_of_mod_eq h)
theorem qM{p x y:Nat}(h:p ∣ x-y)(hl:y≤x):x%p=y%p:=by
 obtain ⟨c,hc⟩:=h
 rw [show x=y+p*c from by omega,Nat.add_mul_mod_self_left]
theorem Rf.cancel{p a x y:Nat}(h:Rf p)(ha:¬p ∣ a)(he:a*x%p=a*y%p):x%p=y%p:=by
 have key:∀x y:Nat,y≤x→a*x%p=a*y%p→x%p=y%p:=fun x y hl he=>by
  have:=oY he
  rw [←Nat.mul_sub] at this
  rcases h.euclid this with h1 | h1
  ·exact absurd h1 ha
  ·exact qM h1 hl
 rcases Nat.le_total y x with hl | hl
 ·exact key x y hl he
 ·exact (key y x hl he.symm).symm
theorem si{p a:Nat}(h:Rf p)(ha:¬p ∣ a):a^(p-1)%p=1:=by
 have h1:=AHW h a
 obtain ⟨q,rfl⟩:∃q,p=q+1:=⟨p-1,by have:=h.pos;omega⟩
 rw [Nat.add_sub_cancel]
 have h2:a*a^q%(q+1)=a*1%(q+1):=by rw [←Nat.pow_succ',h1,Nat.mul_one]
 have h3:=h.cancel ha h2
 rw [h3,Nat.mod_eq_of_lt h.1]
theorem Yn{n a k:Nat}(m:Nat)(hn:1<n)(h:a^k%n=1):a^(k*m)%n=1:=by
 rw [Nat.pow_mul,Nat.pow_mod,h,Nat.one_pow,Nat.mod_eq_of_lt hn]
theorem AB4{n a:Nat}(hn:1<n):∀j k:Nat,a^j%n=1→a^k%n=1→a^Nat.gcd j k%n=1:=by
 intro j
 induction j using Nat.strongRecOn with
 |_ j ih=>
  intro k hj hk
  cases j with
  |zero=>rwa [Nat.gcd_zero_left]
  |succ j=>
   rw [Nat.gcd_succ]
   refine ih (k%(j+1)) (Nat.mod_lt _ O_) (j+1) ?_ hj
   have h1:a^k=a^((j+1)*(k/(j+1)))*a^(k%(j+1)):=by rw [←Nat.pow_add,Nat.div_add_mod]
   rw [h1,Nat.mul_mod,Yn _ hn hj,Nat.one_mul,Nat.mod_mod] at hk
   exact hk
theorem bW:∀n:Nat,1<n→ ∃r,Rf r∧r ∣ n:=by
 intro n
 induction n using Nat.strongRecOn with
 |_ n ih=>
  intro hn
  by_cases h:Rf n
  ·exact ⟨n,h,Nat.dvd_refl n⟩
  ·have:∃m,m ∣ n∧m≠1∧m≠n:=by
    refine Classical.byContradiction fun hc=>h ⟨hn,fun m hm=>?_⟩
    refine Classical.byContradiction fun hc2=>hc ⟨m,hm,fun e=>hc2 (.inl e),fun e=>hc2 (.inr e)⟩
   obtain ⟨m,h1,h2,h3⟩:=this
   have hm0:0<m:=Nat.pos_of_dvd_of_pos h1 O_
   have hml:m≤n:=Nat.le_of_dvd O_ h1
   obtain ⟨r,hr,hrm⟩:=ih m O_ O_
   exact ⟨r,hr,Nat.dvd_trans hrm h1⟩
theorem Wp{n:Nat}(hn:1<n)(h:∀r,Rf r→r ∣ n→n<r*r):Rf n:=by
 refine ⟨hn,fun m hm=>?_⟩
 refine Classical.byContradiction fun hc=>?_
 obtain ⟨k,hk⟩:=hm
 have hm1:m≠1:=fun e=>hc (.inl e)
 have hmn:m≠n:=fun e=>hc (.inr e)
 have hm0:m≠0:=fun e=>by subst e;omega
 have hk0:k≠0:=fun e=>by subst e;omega
 have hk1:k≠1:=fun e=>by subst e;omega
 rcases Nat.le_total m k with hl | hl
 ·obtain ⟨r,hr,hrm⟩:=bW m O_
  have h1:=h r hr (Nat.dvd_trans hrm ⟨k,hk⟩)
  have h2:=Nat.le_of_dvd O_ hrm
  have h3:r*r≤m*k:=Nat.mul_le_mul h2 O_
  omega
 ·obtain ⟨r,hr,hrm⟩:=bW k O_
  have h1:=h r hr (Nat.dvd_trans hrm ⟨m,by rw [hk,Nat.mul_comm]⟩)
  have h2:=Nat.le_of_dvd O_ hrm
  have h3:r*r≤m*k:=Nat.mul_le_mul O_ h2
  omega
theorem AEz{n q k a r:Nat}(hq:Rf q)(hn:n=q*k+1)(h1:a^(n-1)%n=1)(h2:Nat.gcd (a^k%n+(n-1)) n=1)(hr:Rf r)(hd:r ∣ n):q ∣ r-1:=by
 have hr1:=hr.1
 have hn1:1<n:=by have:=Nat.le_of_dvd O_ hd;omega
 have red:∀x,x%n=1→x%r=1:=fun x hx=>by
  obtain ⟨c,hc⟩:=hd
  have:x%n%r=x%r:=Nat.mod_mod_of_dvd x ⟨c,hc⟩
  rw [←this,hx,Nat.mod_eq_of_lt hr1]
 have g1:a^(q*k)%r=1:=red _ (by rw [←h1,hn,Nat.add_sub_cancel])
 refine Classical.byContradiction fun hc=>?_
 have hra:¬r ∣ a:=fun hh=>by
  have:a^(q*k)%r=0:=by
   have hpos:0<q*k:=by omega
   obtain ⟨e,he⟩:∃e,q*k=e+1:=⟨q*k-1,by omega⟩
   rw [he,Nat.pow_succ]
   exact Nat.mod_eq_zero_of_dvd (Nat.dvd_trans hh (Nat.dvd_mul_left _ _))
  omega
 have g2:a^(k*(r-1))%r=1:=by rw [Nat.mul_comm];exact Yn k hr1 (si hr hra)
 have g3:=AB4 hr1 (k*q) (k*(r-1)) (by rw [Nat.mul_comm k q];exact g1) g2
 rw [Nat.gcd_mul_left,hq.cop hc,Nat.mul_one] at g3
 have g4:r ∣ Nat.gcd (a^k%n+(n-1)) n:=by
  refine Nat.dvd_gcd ?_ hd
  refine Nat.dvd_of_mod_eq_zero ?_;have e1:(a^k%n)%r=1:=by rw [Nat.mod_mod_of_dvd _ hd];exact g3
  obtain ⟨c,hc⟩:=hd
  obtain ⟨c',rfl⟩:∃c',c=c'+1:=⟨c-1,by cases c with | zero=>simp at hc;omega | succ c=>omega⟩
  have e2:n-1=(r-1)+r*c':=by rw [hc,Nat.mul_add];omega
  rw [e2,←Nat.add_assoc,Nat.add_mul_mod_self_left,Nat.add_mod,e1,Nat.mod_eq_of_lt (show r-1<r by omega),show 1+(r-1)=r by omega,Nat.mod_self]
 rw [h2] at g4
 have:=Nat.le_of_dvd O_ g4
 omega
theorem AKQ{n q k a:Nat}(hq:Rf q)(hn:n=q*k+1)(hk:0<k)(h1:a^(n-1)%n=1)(h2:Nat.gcd (a^k%n+(n-1)) n=1)(hl:n<q*q):Rf n:=by
 have hq1:=hq.1
 refine Wp (by have:=Nat.mul_le_mul (show 1≤q by omega) (show 1≤k by omega);omega) fun r hr hd=>?_
 have:=Nat.le_of_dvd (by have:=hr.1;omega) (AEz hq hn h1 h2 hr hd)
 exact Nat.lt_of_lt_of_le hl (Nat.mul_le_mul O_ O_)
theorem AKN{n q k a q' k' a':Nat}(hq:Rf q)(hq':Rf q')(hne:¬q ∣ q')(hn:n=q*k+1)(hn':n=q'*k'+1)(hk:0<k)(h1:a^(n-1)%n=1)(h2:Nat.gcd (a^k%n+(n-1)) n=1)
  (h1':a'^(n-1)%n=1) (h2':Nat.gcd (a'^k'%n+(n-1)) n=1) (hl:n<(q*q')*(q*q')):Rf n:=by
 have hq1:=hq.1
 refine Wp (by have:=Nat.mul_le_mul (show 1≤q by omega) (show 1≤k by omega);omega) fun r hr hd=>?_
 have hc:Nat.Coprime q q':=hq.cop hne
 have:=Nat.le_of_dvd (by have:=hr.1;omega) (Nat.Coprime.mul_dvd_of_dvd_of_dvd hc (AEz hq hn h1 h2 hr hd) (AEz hq' hn' h1' h2' hr hd))
 exact Nat.lt_of_lt_of_le hl (Nat.mul_le_mul O_ O_)
def Xd(n:Nat):Nat→Nat→Nat→Nat→Nat
 |0,_,_,Kh=>Kh
 |f+1,b,e,Kh=>if e%2=1 then Xd n f (b*b%n) (e/2) (Kh*b%n) else Xd n f (b*b%n) (e/2) Kh
theorem sA(n:Nat):∀f b e Kh,e<2^f→Xd n f b e Kh%n=Kh*b^e%n:=by
 intro f
 induction f with
 |zero=>intro b e Kh h;rw [show e=0 by omega];simp [Xd]
 |succ f ih=>
  intro b e Kh h
  have h2:e/2<2^f:=by rw [Nat.pow_succ] at h;omega
  have sq:∀x,x*(b*b%n)^(e/2)%n=x*b^(2*(e/2))%n:=fun x=>by
   rw [Nat.mul_mod,←Nat.pow_mod,←Nat.mul_mod,Nat.pow_mul,show b^2=b*b from by rw [Nat.pow_succ,Nat.pow_one]]
  unfold Xd
  split
  ·rename_i h1
   rw [ih _ _ _ h2,sq,Nat.mul_mod,Nat.mod_mod,←Nat.mul_mod,Nat.mul_assoc,←Nat.pow_succ',show (2*(e/2)).succ=e by omega]
  ·rename_i h1
   rw [ih _ _ _ h2,sq,show 2*(e/2)=e by omega]
theorem Te{n b e r:Nat}(f:Nat)(he:e<2^f)(h:Xd n f b e 1%n=r):b^e%n=r:=by
 rw [←h,sA n f b e 1 he,Nat.one_mul]
def sk(n:Nat):Nat→Nat→Bool
 |0,_=>true
 |f+1,d=>(n%d !=0)&&sk n f (d+1)
theorem oD(n:Nat):∀f d,sk n f d=true→ ∀m,d≤m→m<d+f→ ¬m ∣ n:=by
 intro f
 induction f with
 |zero=>intro d _ m h1 h2;omega
 |succ f ih=>
  intro d h m h1 h2
  simp only [sk,Bool.and_eq_true,bne_iff_ne,ne_eq] at h
  by_cases e:m=d
  ·subst e;exact fun hd=>h.1 (Nat.mod_eq_zero_of_dvd hd)
  ·exact ih (d+1) h.2 m O_ O_
theorem T3{n:Nat}(f:Nat)(hn:1<n)(hf:n<(f+2)*(f+2))(h:sk n f 2=true):Rf n:=by
 refine Wp hn fun r hr hd=>?_
 have hr1:=hr.1
 refine Classical.byContradiction fun hc=>?_
 refine oD n f 2 h r O_ ?_ hd
 refine Classical.byContradiction fun hc2=>?_
 have:(f+2)*(f+2)≤r*r:=Nat.mul_le_mul O_ O_
 omega
theorem AIf{n q k a:Nat}(f:Nat)(hq:Rf q)(hf:n<2^f)(hn:n=q*k+1)(hk:0<k)(h1:Xd n f a (n-1) 1%n=1)(h2:Nat.gcd (Xd n f a k 1%n+(n-1)) n=1)(hl:n<q*q):Rf n:=
 AKQ hq hn hk (Te f O_ h1) (by rw [Te f (by have:=Nat.mul_le_mul (show 1≤q from hq.pos) (Nat.le_refl k);omega) rfl];exact h2) hl
theorem AAf{n q k a q' k' a':Nat}(f:Nat)(hq:Rf q)(hq':Rf q')(hf:n<2^f)(hne:¬q ∣ q')(hn:n=q*k+1)(hn':n=q'*k'+1)(hk:0<k)(h1:Xd n f a (n-1) 1%n=1)(h2:Nat.gcd (Xd n f a k 1%n+(n-1)) n=1)
  (h1':Xd n f a' (n-1) 1%n=1) (h2':Nat.gcd (Xd n f a' k' 1%n+(n-1)) n=1) (hl:n<(q*q')*(q*q')):Rf n:=
 AKN hq hq' hne hn hn' hk (Te f O_ h1) (by rw [Te f (by have:=Nat.mul_le_mul (show 1≤q from hq.pos) (Nat.le_refl k);omega) rfl];exact h2)
  (Te f O_ h1') (by rw [Te f (by have:=Nat.mul_le_mul (show 1≤q' from hq'.pos) (Nat.le_refl k');omega) rfl];exact h2') hl
theorem pr0:Rf 8574133:=T3 2929 D_ D_ (by decide+kernel)
theorem pr1:Rf 7:=T3 3 D_ D_ (by decide+kernel)
theorem pr2:Rf 1919519569386763:=AAf (q:=8574133) (k:=223873314) (a:=2) (q':=7) (k':=274217081340966) (a':=2) 51 pr0 pr1 (by decide+kernel) (by decide+kernel) (by decide+kernel) (by decide+kernel) (by decide+kernel) (by decide+kernel) (by decide+kernel) (by decide+kernel) (by decide+kernel) (by decide+kernel)
theorem pr3:Rf 75707:=T3 276 D_ D_ (by decide+kernel)
theorem pr4:Rf 75445702479781427272750846543864801:=AAf (q:=1919519569386763) (k:=39304471641247389600) (a:=2) (q':=75707) (k':=996548568557483816196003626400) (a':=2) 116 pr2 pr3 (by decide+kernel) (by decide+kernel) (by decide+kernel) (by decide+kernel) (by decide+kernel) (by decide+kernel) (by decide+kernel) (by decide+kernel) (by decide+kernel) (by decide+kernel)
theorem pr5:Rf 353:=T3 19 D_ D_ (by decide+kernel)
theorem pr6:Rf 74058212732561358302231226437062788676166966415465897661863160754340907:=AAf (q:=75445702479781427272750846543864801) (k:=981609426360740691344999861639072106) (a:=2) (q':=353) (k':=209796636636151156663544550813209033076960244803019540118592523383402) (a':=2) 236 pr4 pr5 (by decide+kernel) (by decide+kernel) (by decide+kernel) (by decide+kernel) (by decide+kernel) (by decide+kernel) (by decide+kernel) (by decide+kernel) (by decide+kernel) (by decide+kernel)
theorem prP:Rf 57896044618658097711785492504343953926634992332820282019728792003956564819949:=AIf (q:=74058212732561358302231226437062788676166966415465897661863160754340907) (k:=781764) (a:=2) 255 pr6 (by decide+kernel) (by decide+kernel) (by decide+kernel) (by decide+kernel) (by decide+kernel) (by decide+kernel)
abbrev PP:Nat:=57896044618658097711785492504343953926634992332820282019728792003956564819949
abbrev Fp:=Fin PP
def zf(n:Nat):Fp:=Fin.ofNat PP n
theorem Jo(n:Nat):(zf n).val=n%PP:=rfl
theorem YI{a b:Nat}:zf a=zf b↔a%PP=b%PP:=by
 rw [←Fin.val_inj,Jo,Jo]
theorem S1(a b:Nat):zf (a+b)=zf a+zf b:=by
 apply Fin.ext
 rw [Fin.val_add,Jo,Jo,Jo,←Nat.add_mod]
theorem jt(a b:Nat):zf (a*b)=zf a*zf b:=by
 apply Fin.ext
 rw [Fin.val_mul,Jo,Jo,Jo,←Nat.mul_mod]
theorem IB(u:Fp)(k:Nat):u^(k+1)=u^k*u:=by grobner
theorem GX(u:Fp):u^0=1:=by grobner
theorem SK(u:Fp)(j k:Nat):u^(j+k)=u^j*u^k:=by
 induction k with
 |zero=>rw [GX,Nat.add_zero];grobner
 |succ k ih=>rw [←Nat.add_assoc,IB,IB,ih];grobner
theorem xj(u v:Fp)(k:Nat):(u*v)^k=u^k*v^k:=by
 induction k with
 |zero=>rw [GX,GX,GX];grobner
 |succ k ih=>rw [IB,IB,IB,ih];grobner
theorem aJ(u:Fp)(j k:Nat):u^(j*k)=(u^j)^k:=by
 induction k with
 |zero=>rw [Nat.mul_zero,GX,GX]
 |succ k ih=>rw [Nat.mul_succ,SK,ih,IB]
theorem rY:zf 0=0:=rfl
theorem yD:zf 1=1:=rfl
theorem AAM(a k:Nat):zf (a^k)=zf a^k:=by
 induction k with
 |zero=>rw [Nat.pow_zero,GX,yD]
 |succ k ih=>rw [Nat.pow_succ,jt,ih,IB]
theorem HQ(u:Fp):zf u.val=u:=by
 apply Fin.ext
 rw [Jo,Nat.mod_eq_of_lt u.isLt]
theorem ALO:zf PP=0:=by apply Fin.ext;rw [Jo,Nat.mod_self];rfl
theorem P7{n:Nat}:zf n=0↔PP ∣ n:=by
 rw [←rY,YI,Nat.zero_mod]
 exact ⟨Nat.dvd_of_mod_eq_zero,Nat.mod_eq_zero_of_dvd⟩
theorem XD{u v:Fp}(h:u*v=0):u=0∨v=0:=by
 rw [←HQ u,←HQ v,←jt,P7] at h
 rcases prP.euclid h with h1 | h1
 ·exact .inl (by rw [←HQ u,P7];exact h1)
 ·exact .inr (by rw [←HQ v,P7];exact h1)
theorem fS(k:Nat):(0:Fp)^(k+1)=0:=by rw [IB];generalize (0:Fp)^k=x;grobner
def xC:Nat:=PP-1
def yP:Nat:=PP-2
def UU:Nat:=(PP-1)/2
def Cv:Nat:=(PP+3)/8
def eI:Nat:=(PP-1)/4
theorem AAg:yP+1=xC:=by decide+kernel
theorem uM:UU+UU=xC:=by decide+kernel
theorem wZ:Cv*4=UU+2:=by decide+kernel
theorem uq:∃k,Cv=k+1:=⟨(PP+3)/8-1,by decide+kernel⟩
theorem vw:∃k,UU=k+1:=⟨(PP-1)/2-1,by decide+kernel⟩
theorem AIl:eI<2^255:=by decide+kernel
theorem ACo:PP-1=xC:=rfl
theorem AFy:eI=14474011154664524427946373126085988481658748083205070504932198000989141204987:=by decide+kernel
attribute [irreducible] xC yP UU Cv eI
theorem rv{u:Fp}(h:u≠0):u^xC=1:=by
 have h1:¬PP ∣ u.val:=fun hd=>h (by rw [←HQ u,P7];exact hd)
 have h2:=si prP h1
 rw [ACo] at h2
 rw [←HQ u,←AAM,←yD,YI,h2]
 decide+kernel
def Gi(u:Fp):Fp:=u^yP
theorem B2{u:Fp}(h:u≠0):Gi u*u=1:=by
 unfold Gi
 rw [←IB,AAg]
 exact rv h
attribute [irreducible] Gi
theorem Vy:(1:Fp)≠0:=by decide+kernel
theorem VW{u v w:Fp}(h:u≠0)(e:u*v=u*w):v=w:=by
 have:u*(v-w)=0:=by grobner
 rcases XD this with h1 | h1
 ·exact absurd h1 h
 ·clear e this;grobner
theorem ABH{u v:Fp}(h:u*v=1):v=Gi u:=by
 have hu:u≠0:=fun e=>by rw [e] at h;exact Vy (by grobner)
 refine VW hu ?_;have:=B2 hu
 clear hu
 grobner
theorem Lm{u v:Fp}(h:u≠0)(h':v≠0):u*v≠0:=fun e=>by
 rcases XD e with h1 | h1
 ·exact h h1
 ·exact h' h1
theorem Mj(v:Fp):0*v=0:=by grobner
theorem AEV{u v:Fp}(h:u*u=v*v):u=v∨u= -v:=by
 have:(u-v)*(u+v)=0:=by grobner
 rcases XD this with h1 | h1
 ·exact .inl (by clear h this;grobner)
 ·exact .inr (by clear h this;grobner)
def iF:Fp:=zf 19681161376707505956807079304988542015446066515923890162744021073123829784752
theorem xv:iF*iF= -1:=by decide+kernel
theorem nM(b e r f:Nat)(he:e<2^f)(h:Xd PP f b e 1%PP=r):zf b^e=zf r:=by
 rw [←AAM,YI,←h,Nat.mod_mod,sA PP f b e 1 he,Nat.one_mul]
theorem ABG:(zf 2)^eI=iF:=nM 2 eI _ 255 AIl (by rw [AFy];decide+kernel)
attribute [irreducible] iF
def D9(a:Fp):Fp:=if a^Cv*a^Cv=a then a^Cv else a^Cv*iF
theorem vl{a x:Fp}(hx:a^Cv=x)(h:a^UU=1):(x*x)*(x*x)=a*a:=by
 have e:(x*x)*(x*x)=a^(Cv*4):=by
  rw [aJ,hx];clear h hx;grobner
 rw [e,wZ,SK,h]
 clear h hx e
 grobner
theorem vx{a x:Fp}(h0:¬x*x=a)(h4:(x*x)*(x*x)=a*a):x*iF*(x*iF)=a:=by
 rcases AEV h4 with h5 | h5
 ·exact absurd h5 h0
 ·have:=xv
  clear h4 h0
  generalize iF=j at*
  grobner
theorem rk{s:Fp}(hs:s≠0):(s*s)^UU=1:=by
 rw [xj,←SK,uM,rv hs]
theorem nD(s:Fp):D9 (s*s)*D9 (s*s)=s*s:=by
 unfold D9
 split
 ·assumption
 ·rename_i h
  by_cases hs:s=0
  ·exfalso
   apply h
   obtain ⟨k,hk⟩:=uq
   rw [hs,Mj,hk,fS,Mj]
  ·exact vx h (vl rfl (rk hs))
attribute [irreducible] D9
end Go.Proofs.YtmbepikkgkcgkaaGreatDoor
namespace Go.Proofs.YtmbepikkgkcgkaaGreatDoor
open Go.RowKit
variable {g r : Prop}
open Go.Proofs.Tryz
def lV(a:AA 64):Nat:=(nth a 0).toNat+(nth a 1).toNat*2251799813685248+(nth a 2).toNat*5070602400912917605986812821504+(nth a 3).toNat*11417981541647679048466287755595961091061972992+(nth a 4).toNat*25711008708143844408671393477458601640355247900524685364822016
def wV(a:AA 64):Nat:=(nth a 0).toNat+(nth a 1).toNat*18446744073709551616+(nth a 2).toNat*340282366920938463463374607431768211456+(nth a 3).toNat*6277101735386680763835789423207666416102355444464034512896
def LF(a:AA 64):Fp:=zf (lV a)
def Low(n:Nat)(a:AA 64):Prop:=a.length=5∧(nth a 0).toNat<n∧(nth a 1).toNat<n∧(nth a 2).toNat<n∧(nth a 3).toNat<n∧(nth a 4).toNat<n
abbrev EB(a:AA 64):Prop:=Low 4503599627370496 a
theorem Yw{a:AA 64}(h:a.length=5):∃a0 a1 a2 a3 a4,a=[a0,a1,a2,a3,a4]:=by
 match a,h with
 |[a0,a1,a2,a3,a4],_=>exact ⟨_,_,_,_,_,rfl⟩
theorem CU{x y:BitVec 64}(h:x.toNat+y.toNat<18446744073709551616):(x+y).toNat=x.toNat+y.toNat:=by
 rw [BitVec.toNat_add,Nat.mod_eq_of_lt O_]
theorem Gs(x:BitVec 64)(k:Nat):(x>>>k).toNat=x.toNat/2^k:=by
 rw [BitVec.toNat_ushiftRight,Nat.shiftRight_eq_div_pow]
theorem fG(x:BitVec 64):(x>>>51).toNat=x.toNat/2251799813685248:=Gs x 51
theorem OI{x y:BitVec 64}(j:Nat)(hx:x.toNat<2^j):(x ||| y<<<j).toNat=x.toNat+y.toNat*2^j%18446744073709551616:=by
 rw [BitVec.toNat_or,BitVec.toNat_shiftLeft,Nat.shiftLeft_eq]
 rcases Nat.lt_or_ge 64 j with hj | hj
 ·have e:y.toNat*2^j%2^64=0:=by
   obtain ⟨k,rfl⟩:∃k,j=64+k:=⟨j-64,by omega⟩
   rw [Nat.pow_add,show y.toNat*(2^64*2^k)=2^64*(y.toNat*2^k) from by grobner,Nat.mul_mod_right]
  rw [e,Nat.or_zero,Nat.add_zero]
 ·have e:y.toNat*2^j%2^64=y.toNat%2^(64-j)*2^j:=by
   have:(2:Nat)^64=2^(64-j)*2^j:=by rw [←Nat.pow_add,show 64-j+j=64 by omega]
   rw [this,Nat.mul_mod_mul_right]
  rw [show (18446744073709551616:Nat)=2^64 from rfl,e,Nat.or_comm,←Nat.shiftLeft_eq,←Nat.shiftLeft_add_eq_or_of_lt hx,Nat.shiftLeft_eq,Nat.add_comm]
def AGA(a0 a1 a2 a3 a4:BitVec 64):AA 64×BitVec 64:=
 let s0:=a0+0#64
 let s1:=a1+s0>>>51
 let s2:=a2+s1>>>51
 let s3:=a3+s2>>>51
 let s4:=a4+s3>>>51
 ([s0&&&2251799813685247#64,s1&&&2251799813685247#64,s2&&&2251799813685247#64,s3&&&2251799813685247#64,s4&&&2251799813685247#64],s4>>>51)
theorem sg(a0 a1 a2 a3 a4:BitVec 64):EG [a0,a1,a2,a3,a4] 5=((AGA a0 a1 a2 a3 a4).2,(AGA a0 a1 a2 a3 a4).1):=by kernel_rfl
theorem eY(a0 a1 a2 a3 a4:BitVec 64)(h0:a0.toNat<9223372036854775808)(h1:a1.toNat<9223372036854775808)(h2:a2.toNat<9223372036854775808)(h3:a3.toNat<9223372036854775808)(h4:a4.toNat<9223372036854775808):
  ∃r0 r1 r2 r3 r4 c:BitVec 64,AGA a0 a1 a2 a3 a4=([r0,r1,r2,r3,r4],c)∧r0.toNat<2251799813685248∧r1.toNat<2251799813685248∧r2.toNat<2251799813685248∧r3.toNat<2251799813685248∧r4.toNat<2251799813685248∧
   a0.toNat+a1.toNat*2251799813685248+a2.toNat*5070602400912917605986812821504+a3.toNat*11417981541647679048466287755595961091061972992+a4.toNat*25711008708143844408671393477458601640355247900524685364822016=
   r0.toNat+r1.toNat*2251799813685248+r2.toNat*5070602400912917605986812821504+r3.toNat*11417981541647679048466287755595961091061972992+r4.toNat*25711008708143844408671393477458601640355247900524685364822016+c.toNat*57896044618658097711785492504343953926634992332820282019728792003956564819968:=by
 refine ⟨_,_,_,_,_,_,rfl,?_⟩
 have e0:(a0+0#64).toNat=a0.toNat:=by rw [BitVec.add_zero]
 generalize a0+0#64=s0 at*
 have c0:=fG s0
 have e1:=CU (x:=a1) (y:=s0>>>51) O_
 generalize a1+s0>>>51=s1 at*
 have c1:=fG s1
 have e2:=CU (x:=a2) (y:=s1>>>51) O_
 generalize a2+s1>>>51=s2 at*
 have c2:=fG s2
 have e3:=CU (x:=a3) (y:=s2>>>51) O_
 generalize a3+s2>>>51=s3 at*
 have c3:=fG s3
 have e4:=CU (x:=a4) (y:=s3>>>51) O_
 generalize a4+s3>>>51=s4 at*
 have c4:=fG s4
 have m0:=FH s0
 have m1:=FH s1
 have m2:=FH s2
 have m3:=FH s3
 have m4:=FH s4
 rw [m0,m1,m2,m3,m4]
 omega
theorem Tr{a:AA 64}(h:Low 9223372036854775808 a):∃r0 r1 r2 r3 r4 c:Nat,(Ba a).length=5∧(nth (Ba a) 0).toNat=r0+19*c∧(nth (Ba a) 1).toNat=r1∧(nth (Ba a) 2).toNat=r2∧(nth (Ba a) 3).toNat=r3∧(nth (Ba a) 4).toNat=r4∧
  r0<2251799813685248∧r1<2251799813685248∧r2<2251799813685248∧r3<2251799813685248∧r4<2251799813685248∧
  lV a=r0+r1*2251799813685248+r2*5070602400912917605986812821504+r3*11417981541647679048466287755595961091061972992+r4*25711008708143844408671393477458601640355247900524685364822016+c*57896044618658097711785492504343953926634992332820282019728792003956564819968:=by
 obtain ⟨hl,h0,h1,h2,h3,h4⟩:=h
 obtain ⟨a0,a1,a2,a3,a4,rfl⟩:=Yw hl
 obtain ⟨r0,r1,r2,r3,r4,c,he,g0,g1,g2,g3,g4,g5⟩:=eY a0 a1 a2 a3 a4 h0 h1 h2 h3 h4
 have hc:c.toNat≤8192:=by
  change a0.toNat<_ at h0
  change a1.toNat<_ at h1
  change a2.toNat<_ at h2
  change a3.toNat<_ at h3
  change a4.toNat<_ at h4
  omega
 have hm:(19#64*c).toNat=19*c.toNat:=by rw [BitVec.toNat_mul];show 19*c.toNat%_=_;rw [Nat.mod_eq_of_lt O_]
 have hs:Ba [a0,a1,a2,a3,a4]=[r0+19#64*c,r1,r2,r3,r4]:=by
  unfold Ba
  rw [sg,he]
  rfl
 rw [hs]
 refine ⟨r0.toNat,r1.toNat,r2.toNat,r3.toNat,r4.toNat,c.toNat,rfl,?_,rfl,rfl,rfl,rfl,g0,g1,g2,g3,g4,g5⟩
 show (r0+19#64*c).toNat=_
 rw [CU (by rw [hm];omega),hm]
theorem AJ3{a:AA 64}{n:Nat}(h:Low n a):lV a<n*25711008708143855827028953938453824840009041150452446465556481+1:=by
 obtain ⟨hl,h0,h1,h2,h3,h4⟩:=h
 unfold lV
 omega
theorem pO{x y c:Nat}(h:x=y+c*57896044618658097711785492504343953926634992332820282019728792003956564819968):zf x=zf (y+19*c):=by
 rw [YI,h]
 show _%57896044618658097711785492504343953926634992332820282019728792003956564819949=_%57896044618658097711785492504343953926634992332820282019728792003956564819949
 omega
theorem SO{a:AA 64}(h:Low 72057594037927936 a):EB (Ba a)∧LF (Ba a)=LF a:=by
 have hlt:=AJ3 h
 obtain ⟨hl,h0,h1,h2,h3,h4⟩:=h
 obtain ⟨r0,r1,r2,r3,r4,c,gl,e0,e1,e2,e3,e4,g0,g1,g2,g3,g4,g5⟩:=Tr (a:=a) ⟨hl,by omega,by omega,by omega,by omega,by omega⟩
 have hc:c≤32:=by omega
 refine ⟨⟨gl,by omega,by omega,by omega,by omega,by omega⟩,?_⟩
 unfold LF
 rw [pO g5]
 congr 1
 unfold lV
 rw [e0,e1,e2,e3,e4]
 omega
theorem AHC(a0 a1 a2 a3 a4 b0 b1 b2 b3 b4:BitVec 64):G2 [a0,a1,a2,a3,a4] [b0,b1,b2,b3,b4] 5=[a0+b0,a1+b1,a2+b2,a3+b3,a4+b4]:=by kernel_rfl
theorem LY{a b:AA 64}(ha:EB a)(hb:EB b):EB (Ag a b)∧LF (Ag a b)=LF a+LF b:=by
 obtain ⟨hl,h0,h1,h2,h3,h4⟩:=ha
 obtain ⟨gl,g0,g1,g2,g3,g4⟩:=hb
 obtain ⟨a0,a1,a2,a3,a4,rfl⟩:=Yw hl
 obtain ⟨b0,b1,b2,b3,b4,rfl⟩:=Yw gl
 unfold Ag
 rw [AHC]
 change a0.toNat<_ at h0;change a1.toNat<_ at h1;change a2.toNat<_ at h2;change a3.toNat<_ at h3;change a4.toNat<_ at h4
 change b0.toNat<_ at g0;change b1.toNat<_ at g1;change b2.toNat<_ at g2;change b3.toNat<_ at g3;change b4.toNat<_ at g4
 have e0:=CU (x:=a0) (y:=b0) O_
 have e1:=CU (x:=a1) (y:=b1) O_
 have e2:=CU (x:=a2) (y:=b2) O_
 have e3:=CU (x:=a3) (y:=b3) O_
 have e4:=CU (x:=a4) (y:=b4) O_
 have hlow:Low 72057594037927936 [a0+b0,a1+b1,a2+b2,a3+b3,a4+b4]:=⟨rfl,by show (a0+b0).toNat<_;omega,by show (a1+b1).toNat<_;omega,by show (a2+b2).toNat<_;omega,by show (a3+b3).toNat<_;omega,by show (a4+b4).toNat<_;omega⟩
 obtain ⟨f1,f2⟩:=SO hlow
 refine ⟨f1,f2.trans ?_⟩
 unfold LF
 rw [←S1]
 congr 1
 show (a0+b0).toNat+(a1+b1).toNat*_+(a2+b2).toNat*_+(a3+b3).toNat*_+(a4+b4).toNat*_=a0.toNat+a1.toNat*_+a2.toNat*_+a3.toNat*_+a4.toNat*_+(b0.toNat+b1.toNat*_+b2.toNat*_+b3.toNat*_+b4.toNat*_)
 rw [e0,e1,e2,e3,e4]
 omega
theorem AE9(a0 a1 a2 a3 a4 b0 b1 b2 b3 b4:BitVec 64):G6 [a0,a1,a2,a3,a4] [b0,b1,b2,b3,b4] 5=[a0+(9007199254740916#64-b0),a1+(9007199254740988#64-b1),a2+(9007199254740988#64-b2),a3+(9007199254740988#64-b3),a4+(9007199254740988#64-b4)]:=by kernel_rfl
theorem Wb{x y:BitVec 64}(h:y.toNat≤x.toNat):(x-y).toNat=x.toNat-y.toNat:=BitVec.toNat_sub_of_le (by rw [BitVec.le_def];exact h)
theorem NB{a b:AA 64}(ha:EB a)(hb:EB b):EB (A4 a b)∧LF (A4 a b)=LF a-LF b:=by
 obtain ⟨hl,h0,h1,h2,h3,h4⟩:=ha
 obtain ⟨gl,g0,g1,g2,g3,g4⟩:=hb
 obtain ⟨a0,a1,a2,a3,a4,rfl⟩:=Yw hl
 obtain ⟨b0,b1,b2,b3,b4,rfl⟩:=Yw gl
 unfold A4
 rw [AE9]
 change a0.toNat<_ at h0;change a1.toNat<_ at h1;change a2.toNat<_ at h2;change a3.toNat<_ at h3;change a4.toNat<_ at h4
 change b0.toNat<_ at g0;change b1.toNat<_ at g1;change b2.toNat<_ at g2;change b3.toNat<_ at g3;change b4.toNat<_ at g4
 have p0:(9007199254740916#64:BitVec 64).toNat=9007199254740916:=rfl
 have p1:(9007199254740988#64:BitVec 64).toNat=9007199254740988:=rfl
 have d0:=Wb (x:=9007199254740916#64) (y:=b0) O_
 have d1:=Wb (x:=9007199254740988#64) (y:=b1) O_
 have d2:=Wb (x:=9007199254740988#64) (y:=b2) O_
 have d3:=Wb (x:=9007199254740988#64) (y:=b3) O_
 have d4:=Wb (x:=9007199254740988#64) (y:=b4) O_
 have e0:=CU (x:=a0) (y:=9007199254740916#64-b0) O_
 have e1:=CU (x:=a1) (y:=9007199254740988#64-b1) O_
 have e2:=CU (x:=a2) (y:=9007199254740988#64-b2) O_
 have e3:=CU (x:=a3) (y:=9007199254740988#64-b3) O_
 have e4:=CU (x:=a4) (y:=9007199254740988#64-b4) O_
 generalize a0+(9007199254740916#64-b0)=s0 at*
 generalize a1+(9007199254740988#64-b1)=s1 at*
 generalize a2+(9007199254740988#64-b2)=s2 at*
 generalize a3+(9007199254740988#64-b3)=s3 at*
 generalize a4+(9007199254740988#64-b4)=s4 at*
 have hlow:Low 72057594037927936 [s0,s1,s2,s3,s4]:=⟨rfl,by show s0.toNat<_;omega,by show s1.toNat<_;omega,by show s2.toNat<_;omega,by show s3.toNat<_;omega,by show s4.toNat<_;omega⟩
 obtain ⟨f1,f2⟩:=SO hlow
 refine ⟨f1,f2.trans ?_⟩
 have key:LF [s0,s1,s2,s3,s4]+LF [b0,b1,b2,b3,b4]=LF [a0,a1,a2,a3,a4]:=by
  unfold LF
  rw [←S1,YI]
  have:lV [s0,s1,s2,s3,s4]+lV [b0,b1,b2,b3,b4]=lV [a0,a1,a2,a3,a4]+57896044618658097711785492504343953926634992332820282019728792003956564819949*4:=by
   show s0.toNat+s1.toNat*_+s2.toNat*_+s3.toNat*_+s4.toNat*_+(b0.toNat+b1.toNat*_+b2.toNat*_+b3.toNat*_+b4.toNat*_)=a0.toNat+a1.toNat*_+a2.toNat*_+a3.toNat*_+a4.toNat*_+_
   omega
  rw [this,Nat.add_mul_mod_self_left]
 rw [←key]
 grobner
theorem FF{x:BitVec 64}(h:x.toNat<4503599627370496):EB (AQ x)∧LF (AQ x)=zf x.toNat:=by
 have e:AQ x=[x,0#64,0#64,0#64,0#64]:=by unfold AQ;rfl
 rw [e]
 have z:(0#64:BitVec 64).toNat<4503599627370496:=by decide
 refine ⟨⟨rfl,h,z,z,z,z⟩,?_⟩
 have:lV [x,0#64,0#64,0#64,0#64]=x.toNat:=by
  show x.toNat+(0#64).toNat*_+(0#64).toNat*_+(0#64).toNat*_+(0#64).toNat*_=_
  rw [show (0#64:BitVec 64).toNat=0 from rfl]
  omega
 unfold LF
 rw [this]
theorem ADK{n m:Nat}(f:Nat→AA n)(g:Nat→BitVec n)(h0:(f 0).length=m)(hs:∀j,f (j+1)=put (f j) j (g j)):∀j,(f j).length=m∧ ∀i,i<j→i<m→nth (f j) i=g i:=by
 intro j
 induction j with
 |zero=>exact ⟨h0,fun i hi=>by omega⟩
 |succ j ih=>
  refine ⟨by rw [hs,BW,ih.1],fun i hi hm=>?_⟩
  rw [hs]
  by_cases e:j=i
  ·subst e;rw [CD _ _ _ _ (by rw [ih.1];exact hm),if_pos rfl]
  ·by_cases hj:j<m
   ·rw [CD _ _ _ _ (by rw [ih.1];exact hj),if_neg e];exact ih.2 i O_ hm
   ·rw [show put (f j) j (g j)=f j from List.set_eq_of_length_le (by rw [ih.1];omega)];exact ih.2 i O_ hm
theorem byte_at(w:AA 64)(i:Nat)(hi:i<32):(nth w (i/8)>>>(8*(i%8))).setWidth 8=BitVec.ofNat 8 (wV w/256^i):=by
 apply BitVec.eq_of_toNat_eq
 rw [BitVec.toNat_setWidth,BitVec.toNat_ofNat,Gs]
 have h0:=(nth w 0).isLt
 have h1:=(nth w 1).isLt
 have h2:=(nth w 2).isLt
 have h3:=(nth w 3).isLt
 unfold wV
 rcases (by omega:i=0∨i=1∨i=2∨i=3∨i=4∨i=5∨i=6∨i=7∨i=8∨i=9∨i=10∨i=11∨i=12∨i=13∨i=14∨i=15∨i=16∨i=17∨i=18∨i=19∨i=20∨i=21∨i=22∨i=23∨i=24∨i=25∨i=26∨i=27∨i=28∨i=29∨i=30∨i=31) with h | h | h | h | h | h | h | h | h | h | h | h | h | h | h | h | h | h | h | h | h | h | h | h | h | h | h | h | h | h | h | h<;>subst h<;>simp only [Nat.reduceDiv,Nat.reduceMod,Nat.reduceMul,Nat.reducePow]<;>omega
theorem XS(w:AA 64)(f:Nat→AA 8)(h0:(f 0).length=32)(hs:∀j,f (j+1)=put (f j) j ((nth w (j/8)>>>(8*(j%8))).setWidth 8)):f 32=kI (wV w):=by
 obtain ⟨hl,hn⟩:=ADK f (fun j=>(nth w (j/8)>>>(8*(j%8))).setWidth 8) h0 hs 32
 refine XC (by rw [hl,N1]) fun i hi=>?_
 rw [hl] at hi
 rw [hn i hi hi,Zp _ _ hi,byte_at w i hi]
abbrev yA(a:AA 64):Prop:=Low 2251799813685248 a
theorem va{a:AA 64}(h:EB a):yA (Ba (Ba a))∧LF (Ba (Ba a))=LF a:=by
 have hf:=SO (a:=a) ⟨h.1,by have:=h.2.1;omega,by have:=h.2.2.1;omega,by have:=h.2.2.2.1;omega,by have:=h.2.2.2.2.1;omega,by have:=h.2.2.2.2.2;omega⟩
 have hf2:=SO (a:=Ba a) ⟨hf.1.1,by have:=hf.1.2.1;omega,by have:=hf.1.2.2.1;omega,by have:=hf.1.2.2.2.1;omega,by have:=hf.1.2.2.2.2.1;omega,by have:=hf.1.2.2.2.2.2;omega⟩
 refine ⟨?_,hf2.2.trans hf.2⟩
 obtain ⟨hl,h0,h1,h2,h3,h4⟩:=h
 obtain ⟨r0,r1,r2,r3,r4,c,gl,e0,e1,e2,e3,e4,g0,g1,g2,g3,g4,g5⟩:=Tr (a:=a) ⟨hl,by omega,by omega,by omega,by omega,by omega⟩
 have hc:c≤2:=by unfold lV at g5;omega
 obtain ⟨q0,q1,q2,q3,q4,d,kl,f0,f1,f2,f3,f4,k0,k1,k2,k3,k4,k5⟩:=Tr (a:=Ba a) ⟨gl,by omega,by omega,by omega,by omega,by omega⟩
 unfold lV at k5
 rw [e0,e1,e2,e3,e4] at k5
 refine ⟨kl,?_,?_,?_,?_,?_⟩<;>omega
theorem zy{a:AA 64}(h:yA a):Ba a=a:=by
 have hl:=h.1
 have h0:=h.2.1
 have h1:=h.2.2.1
 have h2:=h.2.2.2.1
 have h3:=h.2.2.2.2.1
 have h4:=h.2.2.2.2.2
 obtain ⟨r0,r1,r2,r3,r4,c,gl,e0,e1,e2,e3,e4,g0,g1,g2,g3,g4,g5⟩:=Tr (a:=a) ⟨hl,by omega,by omega,by omega,by omega,by omega⟩
 unfold lV at g5
 refine XC (by rw [gl,hl]) fun i hi=>?_
 rw [gl] at hi
 apply BitVec.eq_of_toNat_eq
 rcases (by omega:i=0∨i=1∨i=2∨i=3∨i=4) with h | h | h | h | h<;>subst h<;>omega
theorem ABJ(a:AA 64)(j:Nat):DA a j=EG (put (Ba (Ba (Ba a))) 0 ((nth (Ba (Ba (Ba a))) 0)+19#64)) j:=by
 induction j with
 |zero=>rfl
 |succ j ih=>rw [DA,EG,ih];rfl
def w4(a:AA 64):AA 64:=[(nth a 0) ||| ((nth a 1)<<<51),((nth a 1)>>>13) ||| ((nth a 2)<<<38),((nth a 2)>>>26) ||| ((nth a 3)<<<25),((nth a 3)>>>39) ||| ((nth a 4)<<<12)]
theorem wy{a:AA 64}(h:yA a):wV (w4 a)=lV a:=by
 obtain ⟨hl,h0,h1,h2,h3,h4⟩:=h
 have e1:=Gs (nth a 1) 13
 have e2:=Gs (nth a 2) 26
 have e3:=Gs (nth a 3) 39
 simp only [Nat.reducePow] at e1 e2 e3
 have k0:=OI (x:=nth a 0) (y:=nth a 1) 51 h0
 have k1:=OI (x:=nth a 1>>>13) (y:=nth a 2) 38 (by rw [e1];show _<274877906944;omega)
 have k2:=OI (x:=nth a 2>>>26) (y:=nth a 3) 25 (by rw [e2];show _<33554432;omega)
 have k3:=OI (x:=nth a 3>>>39) (y:=nth a 4) 12 (by rw [e3];show _<4096;omega)
 simp only [Nat.reducePow] at k0 k1 k2 k3
 show ((nth a 0) ||| ((nth a 1)<<<51)).toNat+(((nth a 1)>>>13) ||| ((nth a 2)<<<38)).toNat*_+(((nth a 2)>>>26) ||| ((nth a 3)<<<25)).toNat*_+(((nth a 3)>>>39) ||| ((nth a 4)<<<12)).toNat*_=_
 rw [k0,k1,k2,k3,e1,e2,e3]
 unfold lV
 omega
theorem qZ{a:AA 64}(h:EB a):Aa a=kI (LF a).val:=by
 obtain ⟨h1,h2⟩:=va h
 have hs:=zy h1
 unfold Aa
 rw [hs]
 rw [ABJ,hs]
 generalize Ba (Ba a)=t at*
 have run:∀J,DM J 32=kI (wV (w4 J)):=fun J=>XS (w4 J) (DM J) rfl fun j=>rfl
 rw [run]
 congr 1
 rw [←h2]
 unfold LF
 rw [Jo]
 have ht:=h1
 obtain ⟨hl,g0,g1,g2,g3,g4⟩:=h1
 obtain ⟨t0,t1,t2,t3,t4,rfl⟩:=Yw hl
 change t0.toNat<_ at g0;change t1.toNat<_ at g1;change t2.toNat<_ at g2;change t3.toNat<_ at g3;change t4.toNat<_ at g4
 rw [show put [t0,t1,t2,t3,t4] 0 (nth [t0,t1,t2,t3,t4] 0+19#64)=[t0+19#64,t1,t2,t3,t4] from rfl,sg]
 have e19:(19#64:BitVec 64).toNat=19:=rfl
 have ea:=CU (x:=t0) (y:=19#64) O_
 obtain ⟨r0,r1,r2,r3,r4,c,he,k0,k1,k2,k3,k4,k5⟩:=eY (t0+19#64) t1 t2 t3 t4 O_ O_ O_ O_ O_
 rw [he]
 show wV (w4 (if (0#64).toNat<c.toNat then [r0,r1,r2,r3,r4] else [t0,t1,t2,t3,t4]))=_
 have hv:lV [t0,t1,t2,t3,t4]=t0.toNat+t1.toNat*2251799813685248+t2.toNat*5070602400912917605986812821504+t3.toNat*11417981541647679048466287755595961091061972992+t4.toNat*25711008708143844408671393477458601640355247900524685364822016:=rfl
 have hr:lV [r0,r1,r2,r3,r4]=r0.toNat+r1.toNat*2251799813685248+r2.toNat*5070602400912917605986812821504+r3.toNat*11417981541647679048466287755595961091061972992+r4.toNat*25711008708143844408671393477458601640355247900524685364822016:=rfl
 have z:(0#64:BitVec 64).toNat=0:=rfl
 show _=_%57896044618658097711785492504343953926634992332820282019728792003956564819949
 split
 ·rename_i hc
  have hc1:c.toNat=1:=by omega
  rw [hc1] at k5
  rw [wy (a:=[r0,r1,r2,r3,r4]) ⟨rfl,k0,k1,k2,k3,k4⟩,hr,hv]
  rw [Nat.mod_eq_sub_mod O_,Nat.mod_eq_of_lt O_]
  omega
 ·rename_i hc
  have hc1:c.toNat=0:=by omega
  rw [hc1] at k5
  rw [wy ht,hv]
  rw [Nat.mod_eq_of_lt O_]
theorem Wv(b:AA 8)(f:Nat→AA 64)(h0:f 0=AC 4)(hs:∀j,f (j+1)=put (f j) (j/8) ((nth (f j) (j/8)) ||| (((nth b j).setWidth 64)<<<(8*(j%8))))):
  ∀j,j≤32→(f j).length=4∧ ∀t,t<4→(nth (f j) t).toNat=tK b t (min 8 (j-8*t)):=by
 intro j
 induction j with
 |zero=>
  intro _
  rw [h0]
  refine ⟨rfl,fun t ht=>?_⟩
  rw [show min 8 (0-8*t)=0 by omega,tK]
  rcases (by omega:t=0∨t=1∨t=2∨t=3) with h | h | h | h<;>subst h<;>rfl
 |succ j ih=>
  intro hj
  obtain ⟨hl,hn⟩:=ih O_
  refine ⟨by rw [hs,BW,hl],fun t ht=>?_⟩
  rw [hs,CD _ _ _ _ (by rw [hl];omega)]
  by_cases e:j/8=t
  ·rw [if_pos e,e]
   have h1:=hn t ht
   have e1:min 8 (j-8*t)=j%8:=by omega
   have e2:min 8 (j+1-8*t)=j%8+1:=by omega
   rw [e1] at h1
   rw [rf _ _ _ O_ (by rw [h1];exact AHD b t _),h1,e2,tK,show 8*t+j%8=j by omega]
  ·rw [if_neg e,hn t ht]
   congr 1
   omega
theorem Ve(b:AA 8)(t:Nat)(ht:t<4):(nth (CC b 32) t).toNat=tK b t 8:=by
 have:=(Wv b (CC b) rfl (fun j=>rfl) 32 (Nat.le_refl _)).2 t ht
 rwa [show min 8 (32-8*t)=8 by omega] at this
theorem Zq(b:AA 8):EB (Rg b)∧LF (Rg b)=zf (Gt b 32):=by
 have v:=gI b
 have v0:=Ve b 0 D_
 have v1:=Ve b 1 D_
 have v2:=Ve b 2 D_
 have v3:=Ve b 3 D_
 unfold Rg
 generalize CC b 32=W at*
 generalize hw0:nth W 0=w0 at*
 generalize hw1:nth W 1=w1 at*
 generalize hw2:nth W 2=w2 at*
 generalize hw3:nth W 3=w3 at*
 have b0:=w0.isLt
 have b1:=w1.isLt
 have b2:=w2.isLt
 have b3:=w3.isLt
 have s0:=Gs w0 51
 have s1:=Gs w1 38
 have s2:=Gs w2 25
 have s3:=Gs w3 12
 have s4:=Gs w3 63
 simp only [Nat.reducePow] at s0 s1 s2 s3 s4
 have o1:=OI (x:=w0>>>51) (y:=w1) 13 (by rw [s0];show _<8192;omega)
 have o2:=OI (x:=w1>>>38) (y:=w2) 26 (by rw [s1];show _<67108864;omega)
 have o3:=OI (x:=w2>>>25) (y:=w3) 39 (by rw [s2];show _<549755813888;omega)
 simp only [Nat.reducePow] at o1 o2 o3
 have m0:=FH w0
 have m1:=FH (w0>>>51 ||| w1<<<13)
 have m2:=FH (w1>>>38 ||| w2<<<26)
 have m3:=FH (w2>>>25 ||| w3<<<39)
 have m4:=FH (w3>>>12)
 rw [o1,s0] at m1
 rw [o2,s1] at m2
 rw [o3,s2] at m3
 rw [s3] at m4
 have t4:(19#64*w3>>>63).toNat=19*(w3.toNat/9223372036854775808):=by
  rw [BitVec.toNat_mul,s4]
  show 19*_%_=_
  rw [Nat.mod_eq_of_lt O_]
 have a0:=CU (x:=w0&&&2251799813685247#64) (y:=19#64*w3>>>63) O_
 show EB [(w0&&&2251799813685247#64)+19#64*w3>>>63,(w0>>>51 ||| w1<<<13)&&&2251799813685247#64,(w1>>>38 ||| w2<<<26)&&&2251799813685247#64,(w2>>>25 ||| w3<<<39)&&&2251799813685247#64,w3>>>12&&&2251799813685247#64]∧LF [(w0&&&2251799813685247#64)+19#64*w3>>>63,(w0>>>51 ||| w1<<<13)&&&2251799813685247#64,(w1>>>38 ||| w2<<<26)&&&2251799813685247#64,(w2>>>25 ||| w3<<<39)&&&2251799813685247#64,w3>>>12&&&2251799813685247#64]=_
 generalize (w0&&&2251799813685247#64)+19#64*w3>>>63=x0 at*
 generalize (w0>>>51 ||| w1<<<13)&&&2251799813685247#64=x1 at*
 generalize (w1>>>38 ||| w2<<<26)&&&2251799813685247#64=x2 at*
 generalize (w2>>>25 ||| w3<<<39)&&&2251799813685247#64=x3 at*
 generalize w3>>>12&&&2251799813685247#64=x4 at*
 refine ⟨⟨rfl,?_,?_,?_,?_,?_⟩,?_⟩
 ·show x0.toNat<_;omega
 ·show x1.toNat<_;omega
 ·show x2.toNat<_;omega
 ·show x3.toNat<_;omega
 ·show x4.toNat<_;omega
 have y1:x1.toNat=w0.toNat/2251799813685248+8192*(w1.toNat%274877906944):=by omega
 have y2:x2.toNat=w1.toNat/274877906944+67108864*(w2.toNat%33554432):=by omega
 have y3:x3.toNat=w2.toNat/33554432+549755813888*(w3.toNat%4096):=by omega
 have y4:x4.toNat=w3.toNat/4096%2251799813685248:=by omega
 clear m1 m2 m3 m4 o1 o2 o3 s0 s1 s2 s3 s4
 unfold LF
 have e:Gt b 32=(w0.toNat%2251799813685248+x1.toNat*2251799813685248+x2.toNat*5070602400912917605986812821504+x3.toNat*11417981541647679048466287755595961091061972992+x4.toNat*25711008708143844408671393477458601640355247900524685364822016)+(w3.toNat/9223372036854775808)*57896044618658097711785492504343953926634992332820282019728792003956564819968:=by omega
 rw [pO e]
 congr 1
 show x0.toNat+x1.toNat*_+x2.toNat*_+x3.toNat*_+x4.toNat*_=_
 omega
theorem AI5(a0 a1 a2 a3 a4 b0 b1 b2 b3 b4:Nat):(a0+a1*2251799813685248+a2*5070602400912917605986812821504+a3*11417981541647679048466287755595961091061972992+a4*25711008708143844408671393477458601640355247900524685364822016)*(b0+b1*2251799813685248+b2*5070602400912917605986812821504+b3*11417981541647679048466287755595961091061972992+b4*25711008708143844408671393477458601640355247900524685364822016)=(a0*b0+a1*(19*b4)+a2*(19*b3)+a3*(19*b2)+a4*(19*b1))+(a0*b1+a1*b0+a2*(19*b4)+a3*(19*b3)+a4*(19*b2))*2251799813685248+(a0*b2+a1*b1+a2*b0+a3*(19*b4)+a4*(19*b3))*5070602400912917605986812821504+(a0*b3+a1*b2+a2*b1+a3*b0+a4*(19*b4))*11417981541647679048466287755595961091061972992+(a0*b4+a1*b3+a2*b2+a3*b1+a4*b0)*25711008708143844408671393477458601640355247900524685364822016+57896044618658097711785492504343953926634992332820282019728792003956564819949*(a1*b4*1+a2*b3*1+a2*b4*2251799813685248+a3*b2*1+a3*b3*2251799813685248+a3*b4*5070602400912917605986812821504+a4*b1*1+a4*b2*2251799813685248+a4*b3*5070602400912917605986812821504+a4*b4*11417981541647679048466287755595961091061972992):=by grind
theorem AAE(x:BitVec 64):(x&&&4294967295#64).toNat=x.toNat%4294967296:=by
 rw [BitVec.toNat_and]
 exact Nat.and_two_pow_sub_one_eq_mod x.toNat 32
theorem WZ{x y:BitVec 64}(h:x.toNat*y.toNat<18446744073709551616):(x*y).toNat=x.toNat*y.toNat:=by
 rw [BitVec.toNat_mul,Nat.mod_eq_of_lt h]
theorem VH(x y:BitVec 64):(Bh x y).toNat=x.toNat*y.toNat%18446744073709551616:=by
 unfold Bh;rw [BitVec.toNat_mul]
theorem U3(x y:BitVec 64):(Fw x y).toNat=x.toNat*y.toNat/18446744073709551616:=by
 obtain ⟨g1,g2,g3,g4⟩:=Go.Lib.mul64_hi x.toNat y.toNat x.isLt y.isLt
 have hx:=x.isLt
 have hy:=y.isLt
 have hxy:x.toNat*y.toNat/18446744073709551616<18446744073709551616:=by
  rw [Nat.div_lt_iff_lt_mul D_]
  exact Nat.mul_lt_mul'' hx hy
 have x1:=Gs x 32
 have y1:=Gs y 32
 simp only [Nat.reducePow] at x1 y1
 have x0:=AAE x
 have y0:=AAE y
 have a1:=Go.Lib.half_mul_le (a:=x.toNat/4294967296) (b:=y.toNat/4294967296) O_ O_
 have a2:=Go.Lib.half_mul_le (a:=x.toNat/4294967296) (b:=y.toNat%4294967296) O_ O_
 have a3:=Go.Lib.half_mul_le (a:=x.toNat%4294967296) (b:=y.toNat/4294967296) O_ O_
 have p00:=WZ (x:=x&&&4294967295#64) (y:=y&&&4294967295#64) (by rw [x0,y0];exact g1)
 have p10:=WZ (x:=x>>>32) (y:=y&&&4294967295#64) (by rw [x1,y0];omega)
 have p01:=WZ (x:=x&&&4294967295#64) (y:=y>>>32) (by rw [x0,y1];omega)
 have p11:=WZ (x:=x>>>32) (y:=y>>>32) (by rw [x1,y1];omega)
 rw [x0,y0] at p00
 rw [x1,y0] at p10
 rw [x0,y1] at p01
 rw [x1,y1] at p11
 have s00:=Gs ((x&&&4294967295#64)*(y&&&4294967295#64)) 32
 simp only [Nat.reducePow] at s00
 rw [p00] at s00
 have t:=CU (x:=(x>>>32)*(y&&&4294967295#64)) (y:=((x&&&4294967295#64)*(y&&&4294967295#64))>>>32) (by rw [p10,s00];exact g2)
 rw [p10,s00] at t
 unfold Fw
 generalize (x>>>32)*(y&&&4294967295#64)+((x&&&4294967295#64)*(y&&&4294967295#64))>>>32=T at*
 have tl:=AAE T
 have ts:=Gs T 32
 simp only [Nat.reducePow] at ts
 rw [t] at tl ts
 have u:=CU (x:=T&&&4294967295#64) (y:=(x&&&4294967295#64)*(y>>>32)) (by rw [tl,p01];exact g3)
 rw [tl,p01] at u
 generalize (T&&&4294967295#64)+(x&&&4294967295#64)*(y>>>32)=U at*
 have us:=Gs U 32
 simp only [Nat.reducePow] at us
 rw [u] at us
 have v:=CU (x:=(x>>>32)*(y>>>32)) (y:=T>>>32) (by rw [p11,ts];omega)
 rw [p11,ts] at v
 have w:=CU (x:=(x>>>32)*(y>>>32)+T>>>32) (y:=U>>>32) (by rw [v,us];omega)
 rw [w,v,us]
 exact g4
theorem WT{x y:BitVec 64}:(Cm x y 0#64).toNat=(x.toNat+y.toNat)/18446744073709551616:=by
 have:=x.isLt
 have:=y.isLt
 unfold Cm
 rw [BitVec.toNat_ofNat,show (0#64:BitVec 64).toNat=0 from rfl,Nat.add_zero]
 omega
def Kh(hi lo:AA 64)(t:Nat):Nat:=(nth hi t).toNat*18446744073709551616+(nth lo t).toNat
theorem zT{hi lo:AA 64}(hh:hi.length=5)(hl:lo.length=5)(x y:BitVec 64){t:Nat}(ht:t<5)(hb:Kh hi lo t+x.toNat*y.toNat<340282366920938463463374607431768211456)(s:Nat):
  Kh (put hi t (nth hi t+(Fw x y+Cm (nth lo t) (Bh x y) 0#64))) (put lo t (nth lo t+Bh x y+0#64)) s=Kh hi lo s+(if t=s then x.toNat*y.toNat else 0):=by
 unfold Kh at*
 rw [CD _ _ _ _ O_,CD _ _ _ _ O_]
 by_cases e:t=s
 ·subst e
  rw [if_pos rfl,if_pos rfl,if_pos rfl,BitVec.add_zero]
  have e0:=U3 x y
  have e1:=VH x y
  have e2:=WT (x:=nth lo t) (y:=Bh x y)
  generalize x.toNat*y.toNat=q at*
  have b0:=(nth lo t).isLt
  have b1:=(Bh x y).isLt
  have f1:=CU (x:=Fw x y) (y:=Cm (nth lo t) (Bh x y) 0#64) (by rw [e0,e2];omega)
  have f2:=CU (x:=nth hi t) (y:=Fw x y+Cm (nth lo t) (Bh x y) 0#64) (by rw [f1,e0,e2];omega)
  rw [f2,f1,e0,e2,BitVec.toNat_add]
  omega
 ·rw [if_neg e,if_neg e,if_neg e,Nat.add_zero]
def ta(a b:AA 64)(i k:Nat):Nat:=(nth a i).toNat*(if 5≤i+k then 19*(nth b k).toNat else (nth b k).toNat)
def sI(a b:AA 64)(i t:Nat):Nat→Nat
 |0=>0
 |k+1=>sI a b i t k+(if (i+k)%5=t then ta a b i k else 0)
def sO(a b:AA 64)(t:Nat):Nat→Nat
 |0=>0
 |i+1=>sO a b t i+sI a b i t 5
theorem jd{n:Nat}{a:AA 64}(h:Low n a)(i:Nat)(hi:i<5):(nth a i).toNat<n:=by
 obtain ⟨_,h0,h1,h2,h3,h4⟩:=h
 rcases (by omega:i=0∨i=1∨i=2∨i=3∨i=4) with e | e | e | e | e<;>subst e<;>assumption
theorem rM{a b:AA 64}(ha:EB a)(hb:EB b)(i k:Nat)(hi:i<5)(hk:k<5):ta a b i k≤649037107316853453566312041152512:=by
 have h1:=jd ha i hi
 have h2:=jd hb k hk
 unfold ta
 refine Nat.le_trans (Nat.mul_le_mul (Nat.le_of_lt h1) (show _≤144115188075855872 from ?_)) D_
 split<;>omega
theorem ALd{b:AA 64}(hb:EB b)(i k:Nat)(hk:k<5):(if 5≤i+k then (nth b k)*19#64 else nth b k).toNat=(if 5≤i+k then 19*(nth b k).toNat else (nth b k).toNat):=by
 have h2:=jd hb k hk
 split
 ·rw [WZ (by show (nth b k).toNat*19<_;omega)]
  show (nth b k).toNat*19=_
  omega
 ·rfl
theorem AER{a b:AA 64}(ha:EB a)(hb:EB b)(i t:Nat)(hi:i<5):∀k,k≤5→sI a b i t k≤k*649037107316853453566312041152512:=by
 intro k
 induction k with
 |zero=>intro _;exact Nat.zero_le _
 |succ k ih=>
  intro hk
  have h1:=ih O_
  have h2:=rM ha hb i k hi O_
  rw [sI,Nat.succ_mul]
  refine Nat.add_le_add h1 ?_;by_cases e:(i+k)%5=t
  ·rw [if_pos e];exact h2
  ·rw [if_neg e];exact Nat.zero_le _
theorem vn{a b X1 X2:AA 64}(ha:EB a)(hb:EB b)(h1:X1.length=5)(h2:X2.length=5)(i:Nat)(hi:i<5)(hX:∀t,Kh X1 X2 t≤i*3245185536584267267831560205762560):∀k,k≤5→
  ∀t,Kh (Cu a b X1 X2 i k).1 (Cu a b X1 X2 i k).2 t=Kh X1 X2 t+sI a b i t k:=by
 intro k
 induction k with
 |zero=>intro _ t;show Kh X1 X2 t=Kh X1 X2 t+0;rw [Nat.add_zero]
 |succ k ih=>
  intro hk t
  have hl:=Ox a b X1 X2 i ha.1 hb.1 h1 h2 k
  have hx:=ALd hb i k O_
  have hP:=rM ha hb i k hi O_
  have hS:=AER ha hb i ((i+k)%5) hi k O_
  have hA:=hX ((i+k)%5)
  have he:=ih O_ ((i+k)%5)
  rw [Cu,RJ,sI,←Nat.add_assoc,←ih O_ t]
  unfold ta at hP
  rw [←hx] at hP
  have:=zT hl.1 hl.2 (nth a i) (if 5≤i+k then (nth b k)*19#64 else nth b k) (t:=(i+k)%5) O_ (by rw [he];omega) t
  rw [this]
  unfold ta
  rw [hx]
theorem vC{a b:AA 64}(ha:EB a)(hb:EB b):∀i,i≤5→(∀t,Kh (BB a b i).1 (BB a b i).2 t=sO a b t i)∧ ∀t,sO a b t i≤i*3245185536584267267831560205762560:=by
 intro i
 induction i with
 |zero=>
  intro _
  refine ⟨fun t=>?_,fun t=>Nat.zero_le _⟩
  show (nth (AC 5) t).toNat*18446744073709551616+(nth (AC 5) t).toNat=0
  have:nth (AC 5) t=0#64:=by
   unfold nth AC
   rw [List.getD_eq_getElem?_getD,List.getElem?_replicate]
   split<;>rfl
  rw [this];rfl
 |succ i ih=>
  intro hi
  obtain ⟨h1,h2⟩:=ih O_
  have hl:=LN a b ha.1 hb.1 i
  have hin:=vn ha hb hl.1 hl.2 i O_ (fun t=>by rw [h1];exact h2 t) 5 (Nat.le_refl _)
  refine ⟨fun t=>?_,fun t=>?_⟩
  ·rw [BB,Qw,sO,←h1 t];exact hin t
  ·rw [sO]
   have:=AER ha hb i t O_ 5 (Nat.le_refl _)
   have:=h2 t
   omega
theorem Kr{hi lo c:BitVec 64}(h:hi.toNat*18446744073709551616+lo.toNat+c.toNat<41538374868278621028243970633760768):
  ((lo+c+0#64)&&&2251799813685247#64).toNat=(hi.toNat*18446744073709551616+lo.toNat+c.toNat)%2251799813685248∧
  (((hi+Cm lo c 0#64)<<<13) ||| ((lo+c+0#64)>>>51)).toNat=(hi.toNat*18446744073709551616+lo.toNat+c.toNat)/2251799813685248:=by
 have b0:=lo.isLt
 have b1:=c.isLt
 have e:=WT (x:=lo) (y:=c)
 have f:=CU (x:=hi) (y:=Cm lo c 0#64) (by rw [e];omega)
 rw [e] at f
 have g:(lo+c+0#64).toNat=(lo.toNat+c.toNat)%18446744073709551616:=by rw [BitVec.add_zero,BitVec.toNat_add]
 generalize lo+c+0#64=l at*
 generalize hi+Cm lo c 0#64=q at*
 have s:=fG l
 refine ⟨by rw [FH,g];omega,?_⟩
 have o:=OI (x:=l>>>51) (y:=q) 13 (by rw [s];show _<8192;omega)
 simp only [Nat.reducePow] at o
 rw [BitVec.or_comm,o,s,f,g]
 omega
def AAA(h0 h1 h2 h3 h4 l0 l1 l2 l3 l4:BitVec 64):BitVec 64×AA 64:=
 let c0:=0#64
 let c1:=((h0+Cm l0 c0 0#64)<<<13) ||| ((l0+c0+0#64)>>>51)
 let c2:=((h1+Cm l1 c1 0#64)<<<13) ||| ((l1+c1+0#64)>>>51)
 let c3:=((h2+Cm l2 c2 0#64)<<<13) ||| ((l2+c2+0#64)>>>51)
 let c4:=((h3+Cm l3 c3 0#64)<<<13) ||| ((l3+c3+0#64)>>>51)
 let c5:=((h4+Cm l4 c4 0#64)<<<13) ||| ((l4+c4+0#64)>>>51)
 (c5,[(l0+c0+0#64)&&&2251799813685247#64,(l1+c1+0#64)&&&2251799813685247#64,(l2+c2+0#64)&&&2251799813685247#64,(l3+c3+0#64)&&&2251799813685247#64,(l4+c4+0#64)&&&2251799813685247#64])
theorem yI(h0 h1 h2 h3 h4 l0 l1 l2 l3 l4:BitVec 64):Bz [h0,h1,h2,h3,h4] [l0,l1,l2,l3,l4] 5=AAA h0 h1 h2 h3 h4 l0 l1 l2 l3 l4:=by kernel_rfl
theorem qr(h0 h1 h2 h3 h4 l0 l1 l2 l3 l4:BitVec 64)(b0:h0.toNat*18446744073709551616+l0.toNat≤16225927682921336339157801028812800)(b1:h1.toNat*18446744073709551616+l1.toNat≤16225927682921336339157801028812800)(b2:h2.toNat*18446744073709551616+l2.toNat≤16225927682921336339157801028812800)(b3:h3.toNat*18446744073709551616+l3.toNat≤16225927682921336339157801028812800)(b4:h4.toNat*18446744073709551616+l4.toNat≤16225927682921336339157801028812800):
  ∃c r0 r1 r2 r3 r4:BitVec 64,AAA h0 h1 h2 h3 h4 l0 l1 l2 l3 l4=(c,[r0,r1,r2,r3,r4])∧r0.toNat<2251799813685248∧r1.toNat<2251799813685248∧r2.toNat<2251799813685248∧r3.toNat<2251799813685248∧r4.toNat<2251799813685248∧
   (h0.toNat*18446744073709551616+l0.toNat)+(h1.toNat*18446744073709551616+l1.toNat)*2251799813685248+(h2.toNat*18446744073709551616+l2.toNat)*5070602400912917605986812821504+(h3.toNat*18446744073709551616+l3.toNat)*11417981541647679048466287755595961091061972992+(h4.toNat*18446744073709551616+l4.toNat)*25711008708143844408671393477458601640355247900524685364822016=
   r0.toNat+r1.toNat*2251799813685248+r2.toNat*5070602400912917605986812821504+r3.toNat*11417981541647679048466287755595961091061972992+r4.toNat*25711008708143844408671393477458601640355247900524685364822016+c.toNat*57896044618658097711785492504343953926634992332820282019728792003956564819968:=by
 refine ⟨_,_,_,_,_,_,rfl,?_⟩
 have z:(0#64:BitVec 64).toNat=0:=rfl
 obtain ⟨m0,k0⟩:=Kr (hi:=h0) (lo:=l0) (c:=0#64) (by rw [z];omega)
 generalize ((h0+Cm l0 0#64 0#64)<<<13) ||| ((l0+0#64+0#64)>>>51)=c1 at*
 have:=c1.isLt
 obtain ⟨m1,k1⟩:=Kr (hi:=h1) (lo:=l1) (c:=c1) O_
 generalize ((h1+Cm l1 c1 0#64)<<<13) ||| ((l1+c1+0#64)>>>51)=c2 at*
 have:=c2.isLt
 obtain ⟨m2,k2⟩:=Kr (hi:=h2) (lo:=l2) (c:=c2) O_
 generalize ((h2+Cm l2 c2 0#64)<<<13) ||| ((l2+c2+0#64)>>>51)=c3 at*
 have:=c3.isLt
 obtain ⟨m3,k3⟩:=Kr (hi:=h3) (lo:=l3) (c:=c3) O_
 generalize ((h3+Cm l3 c3 0#64)<<<13) ||| ((l3+c3+0#64)>>>51)=c4 at*
 have:=c4.isLt
 obtain ⟨m4,k4⟩:=Kr (hi:=h4) (lo:=l4) (c:=c4) O_
 rw [m0,m1,m2,m3,m4,k4,z]
 omega
theorem Cz{a b:AA 64}(ha:EB a)(hb:EB b):EB (AL a b)∧LF (AL a b)=LF a*LF b:=by
 obtain ⟨hac,hle⟩:=vC ha hb 5 (Nat.le_refl _)
 have hl:=LN a b ha.1 hb.1 5
 unfold AL
 generalize BB a b 5=Y at*
 obtain ⟨hi,lo⟩:=Y
 dsimp only at hac hl ⊢
 obtain ⟨h0,h1,h2,h3,h4,rfl⟩:=Yw hl.1
 obtain ⟨l0,l1,l2,l3,l4,rfl⟩:=Yw hl.2
 have a0:=hac 0
 have a1:=hac 1
 have a2:=hac 2
 have a3:=hac 3
 have a4:=hac 4
 change h0.toNat*18446744073709551616+l0.toNat=_ at a0
 change h1.toNat*18446744073709551616+l1.toNat=_ at a1
 change h2.toNat*18446744073709551616+l2.toNat=_ at a2
 change h3.toNat*18446744073709551616+l3.toNat=_ at a3
 change h4.toNat*18446744073709551616+l4.toNat=_ at a4
 have d0:=hle 0
 have d1:=hle 1
 have d2:=hle 2
 have d3:=hle 3
 have d4:=hle 4
 rw [yI]
 obtain ⟨c,r0,r1,r2,r3,r4,he,g0,g1,g2,g3,g4,g5⟩:=qr h0 h1 h2 h3 h4 l0 l1 l2 l3 l4 O_ O_ O_ O_ O_
 rw [he]
 dsimp only
 have p0:=U3 c 19#64
 have p1:=VH c 19#64
 rw [show (19#64:BitVec 64).toNat=19 from rfl] at p0 p1
 have hc:=c.isLt
 obtain ⟨q0,q1⟩:=Kr (hi:=Fw c 19#64) (lo:=Bh c 19#64) (c:=r0) O_
 show EB (Ba [(Bh c 19#64+r0+0#64)&&&2251799813685247#64,r1+(((Fw c 19#64+Cm (Bh c 19#64) r0 0#64)<<<13) ||| ((Bh c 19#64+r0+0#64)>>>51)),r2,r3,r4])∧LF (Ba [(Bh c 19#64+r0+0#64)&&&2251799813685247#64,r1+(((Fw c 19#64+Cm (Bh c 19#64) r0 0#64)<<<13) ||| ((Bh c 19#64+r0+0#64)>>>51)),r2,r3,r4])=_
 generalize ((Fw c 19#64+Cm (Bh c 19#64) r0 0#64)<<<13) ||| ((Bh c 19#64+r0+0#64)>>>51)=u at*
 generalize (Bh c 19#64+r0+0#64)&&&2251799813685247#64=v at*
 have hu:=CU (x:=r1) (y:=u) O_
 generalize r1+u=w at*
 obtain ⟨f1,f2⟩:=SO (a:=[v,w,r2,r3,r4]) ⟨rfl,by show v.toNat<_;omega,by show w.toNat<_;omega,by show r2.toNat<_;omega,by show r3.toNat<_;omega,by show r4.toNat<_;omega⟩
 refine ⟨f1,f2.trans ?_⟩
 unfold LF
 rw [←jt]
 have e1:lV a*lV b=(h0.toNat*18446744073709551616+l0.toNat)+(h1.toNat*18446744073709551616+l1.toNat)*2251799813685248+(h2.toNat*18446744073709551616+l2.toNat)*5070602400912917605986812821504+(h3.toNat*18446744073709551616+l3.toNat)*11417981541647679048466287755595961091061972992+(h4.toNat*18446744073709551616+l4.toNat)*25711008708143844408671393477458601640355247900524685364822016+57896044618658097711785492504343953926634992332820282019728792003956564819949*((nth a 1).toNat*(nth b 4).toNat*1+(nth a 2).toNat*(nth b 3).toNat*1+(nth a 2).toNat*(nth b 4).toNat*2251799813685248+(nth a 3).toNat*(nth b 2).toNat*1+(nth a 3).toNat*(nth b 3).toNat*2251799813685248+(nth a 3).toNat*(nth b 4).toNat*5070602400912917605986812821504+(nth a 4).toNat*(nth b 1).toNat*1+(nth a 4).toNat*(nth b 2).toNat*2251799813685248+(nth a 4).toNat*(nth b 3).toNat*5070602400912917605986812821504+(nth a 4).toNat*(nth b 4).toNat*11417981541647679048466287755595961091061972992):=by
  rw [a0,a1,a2,a3,a4]
  unfold lV
  rw [AI5]
  simp only [sO,sI,ta,Nat.reduceAdd,Nat.reduceMod,Nat.reduceLeDiff,Nat.zero_add,Nat.add_zero,if_true,if_false,Nat.reduceEqDiff]
 have e2:zf (lV a*lV b)=zf (r0.toNat+r1.toNat*2251799813685248+r2.toNat*5070602400912917605986812821504+r3.toNat*11417981541647679048466287755595961091061972992+r4.toNat*25711008708143844408671393477458601640355247900524685364822016+c.toNat*57896044618658097711785492504343953926634992332820282019728792003956564819968):=by
  rw [YI,e1,Nat.add_mul_mod_self_left,g5]
 rw [e2,pO rfl]
 congr 1
 show v.toNat+w.toNat*_+r2.toNat*_+r3.toNat*_+r4.toNat*_=_
 omega
def HP(a:AA 64):AA 64:=(if (!(decide (Aa (AL (BY a (BN 2#8)) (BY a (BN 2#8)))=Aa a)))=true then AL (BY a (BN 2#8)) (BY (AQ 2#64) (FT 5#8)) else BY a (BN 2#8))
def RE(a:AA 64):Bool:=decide (Aa (AL (if (!(decide (Aa (AL (BY a (BN 2#8)) (BY a (BN 2#8)))=Aa a)))=true then AL (BY a (BN 2#8)) (BY (AQ 2#64) (FT 5#8)) else BY a (BN 2#8)) (if (!(decide (Aa (AL (BY a (BN 2#8)) (BY a (BN 2#8)))=Aa a)))=true then AL (BY a (BN 2#8)) (BY (AQ 2#64) (FT 5#8)) else BY a (BN 2#8)))=Aa a)
theorem KR(k:r)(h:Hid r→g:=by intro h;refine Hn (Ay TC AM) AT rfl ?_;exact h.out):g:=h ⟨k⟩
theorem wR(a:AA 64)(ha:a.length=5):Ev prog (.call 164 [Aw (a)] []) (.val (.tup [Aw (HP a),.c (.val (.bool (RE a)))]) []):=by
 have hP_lmRoot0:Hid (HP a=(if (!(decide (Aa (AL (BY a (BN 2#8)) (BY a (BN 2#8)))=Aa a)))=true then AL (BY a (BN 2#8)) (BY (AQ 2#64) (FT 5#8)) else BY a (BN 2#8))):=⟨rfl⟩
 have hP_lmRoot1:Hid (RE a=decide (Aa (AL (if (!(decide (Aa (AL (BY a (BN 2#8)) (BY a (BN 2#8)))=Aa a)))=true then AL (BY a (BN 2#8)) (BY (AQ 2#64) (FT 5#8)) else BY a (BN 2#8)) (if (!(decide (Aa (AL (BY a (BN 2#8)) (BY a (BN 2#8)))=Aa a)))=true then AL (BY a (BN 2#8)) (BY (AQ 2#64) (FT 5#8)) else BY a (BN 2#8)))=Aa a)):=⟨rfl⟩
 refine AI func164 rfl ntmps164 rfl AM ?_;refine BA ?_;refine EH ?_;refine BZ ?_;have hQ1:(BN 2#8).length=32:=AP
 have hQ2:(BY a (BN 2#8)).length=5:=AP
 refine IL ?_;refine Dq ?_;refine AO (wL 2#8) ol ?_;refine AO (bq a (BN 2#8) AD AD) oH ?_;refine KR ?_;refine BJ ?_;refine FP ?_;have hQ3:(AL (BY a (BN 2#8)) (BY a (BN 2#8))).length=5:=AP
 refine S_ ?_;refine SU ?_;refine DS ?_;refine AO (CB (BY a (BN 2#8)) (BY a (BN 2#8)) AD AD) By ?_;refine Dq ?_;refine AO (YC (AL (BY a (BN 2#8)) (BY a (BN 2#8))) a AD AD) jG ?_;refine Kp ?_;refine Fs ?_;refine Eb [1,2,4] (fun (zz:AA 64)=>⟨25,AU [1,2,4] [AY 0,AY 1,AY 2],[Bb (a),Bb (AC 5),Bb (zz)]⟩) (if (!(decide (Aa (AL (BY a (BN 2#8)) (BY a (BN 2#8)))=Aa a)))=true then AL (BY a (BN 2#8)) (BY (AQ 2#64) (FT 5#8)) else BY a (BN 2#8)) rfl (fun hb=>?_) (fun hb=>?_) ?_
 ·have hQ5:(AQ 2#64).length=5:=AP
  have hQ6:(FT 5#8).length=32:=AP
  have hQ7:(BY (AQ 2#64) (FT 5#8)).length=5:=AP
  have hQ8:(AL (BY a (BN 2#8)) (BY (AQ 2#64) (FT 5#8))).length=5:=AP
  refine In ?_;refine Dq ?_;refine AO (EX 2#64) JW ?_;refine AO (uX 5#8) ol ?_;refine AO (bq (AQ 2#64) (FT 5#8) AD AD) oH ?_;refine AO (CB (BY a (BN 2#8)) (BY (AQ 2#64) (FT 5#8)) AD AD) By ?_;refine Is ?_;refine Ar ?_;refine ⟨(AL (BY a (BN 2#8)) (BY (AQ 2#64) (FT 5#8))),K_,?_⟩
  rw [if_pos (hb)]
 ·refine S_ ?_
  refine ⟨(BY a (BN 2#8)),K_,?_⟩
  rw [if_neg (by (rw [hb];decide))]
 have hJ4:(if (!(decide (Aa (AL (BY a (BN 2#8)) (BY a (BN 2#8)))=Aa a)))=true then AL (BY a (BN 2#8)) (BY (AQ 2#64) (FT 5#8)) else BY a (BN 2#8)).length=5:=by split<;>simp [*]
 generalize (if (!(decide (Aa (AL (BY a (BN 2#8)) (BY a (BN 2#8)))=Aa a)))=true then AL (BY a (BN 2#8)) (BY (AQ 2#64) (FT 5#8)) else BY a (BN 2#8))=J4 at*
 have hQ9:(AL J4 J4).length=5:=AP
 refine S_ ?_;refine SU ?_;refine DS ?_;refine Dq ?_;refine AO (CB J4 J4 AD AD) By ?_;refine Dq ?_;refine AO (YC (AL J4 J4) a AD AD) jG ?_;refine Is ?_;refine Al ?_;rw [hP_lmRoot0.out,hP_lmRoot1.out]
 exact k_2 (Hu rfl rfl H7 HF B7 D_) (Iu rfl) (by (kernel_rfl))
@[simp] theorem AD1(a:AA 64)(ha:a.length=5):(HP a).length=5:=by
 unfold HP
 (split<;>(simp (maxDischargeDepth:=9) [*];done))
attribute [irreducible] HP
attribute [irreducible] RE
def F(u:Fp):AA 8:=kI u.val
def Z(b:AA 8):Fp:=zf (Gt b 32)
@[simp] theorem bT(u:Fp):(F u).length=32:=N1 _
theorem Z_F(u:Fp):Z (F u)=u:=by
 unfold Z F
 rw [We _ _ (Nat.le_refl _),Nat.mod_eq_of_lt (Nat.lt_trans u.isLt D_),HQ]
theorem AAl{u v:Fp}:F u=F v↔u=v:=⟨fun h=>by rw [←Z_F u,h,Z_F],fun h=>by rw [h]⟩
theorem AFw(u:Fp):nth (F u) 0=BitVec.ofNat 8 u.val:=by
 unfold F
 rw [Zp _ _ D_,Nat.pow_zero,Nat.div_one]
theorem NP{a:AA 64}(h:EB a):Aa a=F (LF a):=qZ h
theorem qv(x:BitVec 8):((x&&&1#8)==1#8)=decide (x.toNat%2=1):=by
 have e:(x&&&1#8).toNat=x.toNat%2:=by
  rw [BitVec.toNat_and]
  exact Nat.and_two_pow_sub_one_eq_mod x.toNat 1
 by_cases h:x.toNat%2=1
 ·rw [decide_eq_true h,beq_iff_eq]
  apply BitVec.eq_of_toNat_eq
  rw [e,h];rfl
 ·rw [decide_eq_false h,beq_eq_false_iff_ne]
  intro hx
  apply h
  rw [←e,hx];rfl
theorem jE(e:AA 8)(i:Nat)(hi:i<256):((((nth e (i/8))>>>(i%8))&&&1#8)==1#8)=decide (Gt e 32/2^i%2=1):=by
 rw [qv]
 have h1:=XG e 32 (i/8) O_
 rw [BitVec.toNat_ushiftRight,Nat.shiftRight_eq_div_pow,←h1]
 have h2:(2:Nat)^i=256^(i/8)*2^(i%8):=by
  rw [show (256:Nat)=2^8 from rfl,←Nat.pow_mul,←Nat.pow_add,Nat.div_add_mod]
 rw [h2,←Nat.div_div_eq_div_mul]
 generalize Gt e 32/256^(i/8)=x
 congr 1
 rcases (by omega:i%8=0∨i%8=1∨i%8=2∨i%8=3∨i%8=4∨i%8=5∨i%8=6∨i%8=7) with h | h | h | h | h | h | h | h<;>rw [h]<;>simp only [Nat.reducePow]<;>apply propext<;>omega
theorem sj(x:Fp):x^2=x*x:=by grobner
theorem kw(x:Fp):x^1=x:=by grobner
theorem Sm(x:Fp):x*1=x:=by grobner
theorem ar{a:AA 64}(ha:EB a)(e:AA 8):EB (BY a e)∧LF (BY a e)=LF a^Gt e 32:=by
 have run:∀j,j≤256→EB (EJ a e j)∧LF (EJ a e j)=LF a^(Gt e 32/2^(256-j)):=by
  intro j
  induction j with
  |zero=>
   intro _
   have hz:Gt e 32/2^(256-0)=0:=Nat.div_eq_of_lt (Rq e 32)
   rw [hz,GX]
   exact FF (x:=1#64) D_
  |succ j ih=>
   intro hj
   obtain ⟨h1,h2⟩:=ih O_
   obtain ⟨s1,s2⟩:=Cz h1 h1
   have hb:=jE e (255-j) O_
   have hq:Gt e 32/2^(256-(j+1))=2*(Gt e 32/2^(256-j))+Gt e 32/2^(255-j)%2:=by
    rw [show 256-(j+1)=255-j by omega,show 256-j=(255-j)+1 by omega,Nat.pow_succ,←Nat.div_div_eq_div_mul]
    omega
   rw [EJ,P5,hb,hq,SK,Nat.mul_comm 2,aJ,←h2]
   have hsq:LF (EJ a e j)^2=LF (AL (EJ a e j) (EJ a e j)):=by
    rw [s2,sj]
   rw [hsq]
   by_cases hc:Gt e 32/2^(255-j)%2=1
   ·rw [decide_eq_true hc,if_pos rfl,hc]
    obtain ⟨t1,t2⟩:=Cz s1 ha
    exact ⟨t1,by rw [t2,kw]⟩
   ·rw [decide_eq_false hc,if_neg D_,show Gt e 32/2^(255-j)%2=0 by omega,GX]
    exact ⟨s1,by rw [Sm]⟩
 have:=run 256 (Nat.le_refl _)
 rw [Nat.sub_self,Nat.pow_zero,Nat.div_one] at this
 unfold BY
 exact this
theorem ALZ:Gt (NK 21#8) 32=yP:=by decide+kernel
theorem ALG:Gt (BN 2#8) 32=Cv:=by decide+kernel
theorem ALW:Gt (FT 5#8) 32=eI:=by decide+kernel
theorem Z0{a:AA 64}(ha:EB a):EB (Cb a)∧LF (Cb a)=Gi (LF a):=by
 unfold Cb Gi
 have:=ar ha (NK 21#8)
 rwa [ALZ] at this
theorem fb{a:AA 64}(ha:EB a):(EB (HP a)∧LF (HP a)=D9 (LF a))∧RE a=decide (D9 (LF a)*D9 (LF a)=LF a):=by
 obtain ⟨p1,p2⟩:=ar ha (BN 2#8)
 rw [ALG] at p2
 obtain ⟨q1,q2⟩:=Cz p1 p1
 obtain ⟨t1,t2⟩:=FF (x:=2#64) D_
 obtain ⟨i1,i2⟩:=ar t1 (FT 5#8)
 rw [ALW,t2,show (2#64:BitVec 64).toNat=2 from rfl,ABG] at i2
 obtain ⟨r1,r2⟩:=Cz p1 i1
 have hc:(!(decide (Aa (AL (BY a (BN 2#8)) (BY a (BN 2#8)))=Aa a)))= !(decide (LF a^Cv*LF a^Cv=LF a)):=by
  rw [NP q1,NP ha,q2,p2]
  congr 1
  exact decide_eq_decide.2 AAl
 have h0:EB (HP a)∧LF (HP a)=D9 (LF a):=by
  unfold HP D9
  rw [hc]
  by_cases h:LF a^Cv*LF a^Cv=LF a
  ·rw [decide_eq_true h,if_neg D_,if_pos h]
   exact ⟨p1,p2⟩
  ·rw [decide_eq_false h,if_pos D_,if_neg h]
   exact ⟨r1,by rw [r2,p2,i2]⟩
 refine ⟨h0,?_⟩
 obtain ⟨u1,u2⟩:=Cz h0.1 h0.1
 have e1:RE a=decide (Aa (AL (HP a) (HP a))=Aa a):=by unfold RE HP;rfl
 rw [e1,NP u1,NP ha,u2,h0.2]
 exact decide_eq_decide.2 AAl
def RR(u:Fp):Fp:=if u.val%2=1 then 0-u else u
theorem ACy(b:AA 8):EB (Rg b)∧LF (Rg b)=Z b:=Zq b
attribute [irreducible] F Z
end Go.Proofs.YtmbepikkgkcgkaaGreatDoor
namespace Go.Proofs.YtmbepikkgkcgkaaGreatDoor
variable {g r : Prop}
open Go.Proofs.Tryz
def dF:Fp:=zf 37095705934669439343138083508754565189542113879843219016388785533085940283555
theorem AIo:dF*zf 121666= -zf 121665:=by decide+kernel
theorem vE:UU<2^255:=by decide+kernel
theorem tF:dF^UU= -1:=by
 unfold dF
 rw [nM 37095705934669439343138083508754565189542113879843219016388785533085940283555 UU 57896044618658097711785492504343953926634992332820282019728792003956564819948 255 vE (by decide+kernel)]
 decide+kernel
attribute [irreducible] dF
theorem ja{u v:Fp}(hv:v≠0):¬u*u=dF*(v*v):=fun h=>by
 have hd:dF≠0:=fun e=>by
  have:=tF
  obtain ⟨k,hk⟩:=vw
  rw [e,hk,fS] at this
  revert this;decide+kernel
 have hw:(u*Gi v)*(u*Gi v)=dF:=by
  have:=B2 hv
  have e:(u*Gi v)*(u*Gi v)=(u*u)*(Gi v*Gi v):=by grobner
  rw [e,h]
  have e2:dF*(v*v)*(Gi v*Gi v)=dF*((Gi v*v)*(Gi v*v)):=by grobner
  rw [e2,this]
  grobner
 have hn:u*Gi v≠0:=fun e=>by rw [e,Mj] at hw;exact hd hw.symm
 have h1:=rk hn
 rw [hw,tF] at h1
 revert h1;decide+kernel
structure Pt where
 x:Fp
 y:Fp
def On(p:Pt):Prop:=p.y*p.y-p.x*p.x=1+dF*(p.x*p.x*(p.y*p.y))
theorem yg:(2:Fp)≠0:=by decide+kernel
theorem zx{x1 y1 x2 y2 ε:Fp}(h1:y1*y1-x1*x1=1+dF*(x1*x1*(y1*y1)))(h2:y2*y2-x2*x2=1+dF*(x2*x2*(y2*y2)))(he:ε*ε=1)(h:dF*x1*x2*y1*y2=ε):False:=by
 have hε:ε≠0:=fun e=>by rw [e,Mj] at he;exact Vy he.symm
 have hi:=xv
 have hx1:x1≠0:=fun e=>by rw [e] at h;exact hε (by rw [←h];grobner)
 have hy1:y1≠0:=fun e=>by rw [e] at h;exact hε (by rw [←h];grobner)
 have hy2:y2≠0:=fun e=>by rw [e] at h;exact hε (by rw [←h];grobner)
 have hxy:x1*y1≠0:=Lm hx1 hy1
 generalize iF=j at hi
 generalize hd:dF=d at*
 have ka:(j*x1+ε*y1)*(j*x1+ε*y1)=d*((x1*y1*(j*x2+y2))*(x1*y1*(j*x2+y2))):=by
  clear hε hx1 hy1 hy2 hxy hd
  grobner
 have kb:(j*x1-ε*y1)*(j*x1-ε*y1)=d*((x1*y1*(j*x2-y2))*(x1*y1*(j*x2-y2))):=by
  clear hε hx1 hy1 hy2 hxy hd ka
  grobner
 subst hd
 by_cases c1:j*x2+y2=0
 ·by_cases c2:j*x2-y2=0
  ·have:2*y2=0:=by clear ka kb h h1 h2 he hi hε hx1 hy1 hy2 hxy;grobner
   rcases XD this with g | g
   ·exact yg g
   ·exact hy2 g
  ·exact ja (Lm hxy c2) kb
 ·exact ja (Lm hxy c1) ka
theorem PN{p q:Pt}(hp:On p)(hq:On q):1+dF*p.x*q.x*p.y*q.y≠0:=fun h=>
 zx (ε:= -1) hp hq (by decide+kernel) (by generalize dF*p.x*q.x*p.y*q.y=t at*;grobner)
theorem Mm{p q:Pt}(hp:On p)(hq:On q):1-dF*p.x*q.x*p.y*q.y≠0:=fun h=>
 zx (ε:=1) hp hq (by decide+kernel) (by generalize dF*p.x*q.x*p.y*q.y=t at*;grobner)
def MX(p q:Pt):Pt:=⟨(p.x*q.y+q.x*p.y)*Gi (1+dF*p.x*q.x*p.y*q.y),(p.y*q.y+p.x*q.x)*Gi (1-dF*p.x*q.x*p.y*q.y)⟩
def fD:Pt:=⟨0,1⟩
theorem ABn:On fD:=by unfold On fD;show (1:Fp)*1-0*0=1+dF*(0*0*(1*1));generalize dF=d;grobner
theorem ry{a b u v:Fp}(hu:u≠0)(hv:v≠0):a*Gi u=b*Gi v↔a*v=b*u:=by
 have h1:=B2 hu
 have h2:=B2 hv
 constructor
 ·intro h
  have e1:a*v=(a*Gi u)*(u*v):=by clear h h2;grobner
  rw [e1,h]
  clear h h1 e1
  grobner
 ·intro h
  refine VW (Lm hu hv) ?_;clear hu hv
  have e1:u*v*(a*Gi u)=a*v:=by clear h h2;grobner
  have e2:u*v*(b*Gi v)=b*u:=by clear h h1;grobner
  rw [e1,e2,h]
theorem ABe:Gi 1=1:=(ABH (by decide+kernel)).symm
theorem vD(p:Pt):MX p fD=p:=by
 unfold MX fD
 show Pt.mk ((p.x*1+0*p.y)*Gi (1+dF*p.x*0*p.y*1)) ((p.y*1+p.x*0)*Gi (1-dF*p.x*0*p.y*1))=p
 rw [show 1+dF*p.x*0*p.y*1=1 from by generalize dF=d;grobner,show 1-dF*p.x*0*p.y*1=1 from by generalize dF=d;grobner,ABe]
 cases p with
 |mk x y=>congr 1<;>(simp only;grobner)
theorem closure (d x1 y1 x2 y2 : Fp) (h1 : y1*y1 - x1*x1 = 1 + d*(x1*x1*(y1*y1))) (h2 : y2*y2 - x2*x2 = 1 + d*(x2*x2*(y2*y2))) :
    ((y1*y2+x1*x2)*(y1*y2+x1*x2))*((1+d*x1*x2*y1*y2)*(1+d*x1*x2*y1*y2)) - ((x1*y2+x2*y1)*(x1*y2+x2*y1))*((1-d*x1*x2*y1*y2)*(1-d*x1*x2*y1*y2)) = ((1+d*x1*x2*y1*y2)*(1+d*x1*x2*y1*y2))*((1-d*x1*x2*y1*y2)*(1-d*x1*x2*y1*y2)) + d*((x1*y2+x2*y1)*(x1*y2+x2*y1)*((y1*y2+x1*x2)*(y1*y2+x1*x2))) := by grobner
theorem AAm(d A B u v i j:Fp)(hi:i*u=1)(hj:j*v=1)(h:B*B*(u*u)-A*A*(v*v)=u*u*(v*v)+d*(A*A*(B*B))):B*j*(B*j)-A*i*(A*i)=1+d*(A*i*(A*i)*(B*j*(B*j))):=by grobner
theorem W9{p q:Pt}(hp:On p)(hq:On q):On (MX p q):=by
 have h1:=B2 (PN hp hq)
 have h2:=B2 (Mm hp hq)
 exact AAm dF _ _ _ _ _ _ h1 h2 (closure dF _ _ _ _ hp hq)
theorem AFz (d x1 y1 x2 y2 x3 y3 : Fp) (h1 : y1*y1 - x1*x1 = 1 + d*(x1*x1*(y1*y1))) (h2 : y2*y2 - x2*x2 = 1 + d*(x2*x2*(y2*y2))) (h3 : y3*y3 - x3*x3 = 1 + d*(x3*x3*(y3*y3))) :
    ((x1*y2+x2*y1)*(1-d*x1*x2*y1*y2)*y3 + x3*(y1*y2+x1*x2)*(1+d*x1*x2*y1*y2))*((1+d*x2*x3*y2*y3)*(1-d*x2*x3*y2*y3) + d*x1*y1*(x2*y3+x3*y2)*(y2*y3+x2*x3)) = (x1*(y2*y3+x2*x3)*(1+d*x2*x3*y2*y3) + (x2*y3+x3*y2)*(1-d*x2*x3*y2*y3)*y1)*((1+d*x1*x2*y1*y2)*(1-d*x1*x2*y1*y2) + d*x3*y3*(x1*y2+x2*y1)*(y1*y2+x1*x2)) := by grobner
theorem AFP (d x1 y1 x2 y2 x3 y3 : Fp) (h1 : y1*y1 - x1*x1 = 1 + d*(x1*x1*(y1*y1))) (h2 : y2*y2 - x2*x2 = 1 + d*(x2*x2*(y2*y2))) (h3 : y3*y3 - x3*x3 = 1 + d*(x3*x3*(y3*y3))) :
    ((y1*y2+x1*x2)*(1+d*x1*x2*y1*y2)*y3 + (x1*y2+x2*y1)*(1-d*x1*x2*y1*y2)*x3)*((1+d*x2*x3*y2*y3)*(1-d*x2*x3*y2*y3) - d*x1*y1*(x2*y3+x3*y2)*(y2*y3+x2*x3)) = (y1*(y2*y3+x2*x3)*(1+d*x2*x3*y2*y3) + x1*(x2*y3+x3*y2)*(1-d*x2*x3*y2*y3))*((1+d*x1*x2*y1*y2)*(1-d*x1*x2*y1*y2) - d*x3*y3*(x1*y2+x2*y1)*(y1*y2+x1*x2)) := by grobner
theorem asx (d x1 y1 x3 y3 A B u v C D w z i j k l : Fp) (hi : i * u = 1) (hj : j * v = 1) (hk : k * w = 1) (hl : l * z = 1) :
    (u * v) * (w * z) * ((A * i * y3 + x3 * (B * j)) * (1 + d * x1 * (C * k) * y1 * (D * l))) = (A * v * y3 + x3 * B * u) * (w * z + d * x1 * y1 * C * D) := by grobner
theorem ALa (d x1 y1 x3 y3 A B u v C D w z i j k l : Fp) (hi : i * u = 1) (hj : j * v = 1) (hk : k * w = 1) (hl : l * z = 1) :
    (u * v) * (w * z) * ((x1 * (D * l) + C * k * y1) * (1 + d * (A * i) * x3 * (B * j) * y3)) = (x1 * D * w + C * z * y1) * (u * v + d * x3 * y3 * A * B) := by grobner
theorem asy (d x1 y1 x3 y3 A B u v C D w z i j k l : Fp) (hi : i * u = 1) (hj : j * v = 1) (hk : k * w = 1) (hl : l * z = 1) :
    (u * v) * (w * z) * ((B * j * y3 + A * i * x3) * (1 - d * x1 * (C * k) * y1 * (D * l))) = (B * u * y3 + A * v * x3) * (w * z - d * x1 * y1 * C * D) := by grobner
theorem ALI (d x1 y1 x3 y3 A B u v C D w z i j k l : Fp) (hi : i * u = 1) (hj : j * v = 1) (hk : k * w = 1) (hl : l * z = 1) :
    (u * v) * (w * z) * ((y1 * (D * l) + x1 * (C * k)) * (1 - d * (A * i) * x3 * (B * j) * y3)) = (y1 * D * w + x1 * C * z) * (u * v - d * x3 * y3 * A * B) := by grobner
theorem pI{p q r:Pt}(hp:On p)(hq:On q)(hr:On r):MX (MX p q) r=MX p (MX q r):=by
 have u1:=PN hp hq
 have v1:=Mm hp hq
 have w1:=PN hq hr
 have z1:=Mm hq hr
 have nz:=Lm (Lm u1 v1) (Lm w1 z1)
 have a1:=PN (W9 hp hq) hr
 have a2:=Mm (W9 hp hq) hr
 have b1:=PN hp (W9 hq hr)
 have b2:=Mm hp (W9 hq hr)
 have ex:(MX (MX p q) r).x=(MX p (MX q r)).x:=by
  refine (ry a1 b1).2 (VW nz ?_)
  exact (asx dF p.x p.y r.x r.y _ _ _ _ _ _ _ _ _ _ _ _ (B2 u1) (B2 v1) (B2 w1) (B2 z1)).trans ((AFz dF p.x p.y q.x q.y r.x r.y hp hq hr).trans (ALa dF p.x p.y r.x r.y _ _ _ _ _ _ _ _ _ _ _ _ (B2 u1) (B2 v1) (B2 w1) (B2 z1)).symm)
 have ey:(MX (MX p q) r).y=(MX p (MX q r)).y:=by
  refine (ry a2 b2).2 (VW nz ?_)
  exact (asy dF p.x p.y r.x r.y _ _ _ _ _ _ _ _ _ _ _ _ (B2 u1) (B2 v1) (B2 w1) (B2 z1)).trans ((AFP dF p.x p.y q.x q.y r.x r.y hp hq hr).trans (ALI dF p.x p.y r.x r.y _ _ _ _ _ _ _ _ _ _ _ _ (B2 u1) (B2 v1) (B2 w1) (B2 z1)).symm)
 cases h:MX (MX p q) r with
 |mk a b=>cases h':MX p (MX q r) with
  |mk c e=>rw [h,h'] at ex ey;simp only at ex ey;rw [ex,ey]
def dV(p:Pt):Nat→Pt
 |0=>fD
 |n+1=>MX (dV p n) p
theorem bH{p:Pt}(h:On p)(n:Nat):On (dV p n):=by
 induction n with
 |zero=>exact ABn
 |succ n ih=>exact W9 ih h
theorem AAX{p:Pt}(h:On p)(m n:Nat):dV p (m+n)=MX (dV p m) (dV p n):=by
 induction n with
 |zero=>rw [Nat.add_zero];exact (vD _).symm
 |succ n ih=>rw [←Nat.add_assoc,dV,ih,dV,pI (bH h m) (bH h n) h]
structure Qt where
 X:Fp
 Y:Fp
 Z:Fp
 T:Fp
def Yk(P:Qt)(p:Pt):Prop:=P.Z≠0∧P.X=p.x*P.Z∧P.Y=p.y*P.Z∧P.T=p.x*p.y*P.Z
def qo(P Q:Qt):Qt:=
 let a:=(P.Y-P.X)*(Q.Y-Q.X)
 let b:=(P.Y+P.X)*(Q.Y+Q.X)
 let c:=(dF+dF)*P.T*Q.T
 let d:=(P.Z+P.Z)*Q.Z
 ⟨(b-a)*(d-c),(d+c)*(b+a),(d-c)*(d+c),(b-a)*(b+a)⟩
theorem SA{a u w:Fp}(hu:u≠0)(h:a=w*u):a*Gi u=w:=by
 have:=B2 hu
 clear hu
 rw [h]
 grobner
theorem ZZ{P Q:Qt}{p q:Pt}(hp:On p)(hq:On q)(h1:Yk P p)(h2:Yk Q q):Yk (qo P Q) (MX p q):=by
 have d1:=PN hp hq
 have d2:=Mm hp hq
 have i1:=B2 d1
 have i2:=B2 d2
 obtain ⟨z1,x1,y1,t1⟩:=h1
 obtain ⟨z2,x2,y2,t2⟩:=h2
 obtain ⟨X1,Y1,Z1,T1⟩:=P
 obtain ⟨X2,Y2,Z2,T2⟩:=Q
 obtain ⟨px,py⟩:=p
 obtain ⟨qx,qy⟩:=q
 unfold Yk qo MX at*
 simp only at*
 subst x1 y1 t1 x2 y2 t2
 generalize dF=d at*
 have ef:(Z1+Z1)*Z2-(d+d)*(px*py*Z1)*(qx*qy*Z2)=2*(Z1*Z2)*(1-d*px*qx*py*qy):=by clear i1 i2 hp hq d1 d2 z1 z2;grobner
 have eg:(Z1+Z1)*Z2+(d+d)*(px*py*Z1)*(qx*qy*Z2)=2*(Z1*Z2)*(1+d*px*qx*py*qy):=by clear i1 i2 hp hq d1 d2 z1 z2 ef;grobner
 have ee:(py*Z1+px*Z1)*(qy*Z2+qx*Z2)-(py*Z1-px*Z1)*(qy*Z2-qx*Z2)=2*(Z1*Z2)*(px*qy+qx*py):=by clear i1 i2 hp hq d1 d2 z1 z2 ef eg;grobner
 have eh:(py*Z1+px*Z1)*(qy*Z2+qx*Z2)+(py*Z1-px*Z1)*(qy*Z2-qx*Z2)=2*(Z1*Z2)*(py*qy+px*qx):=by clear i1 i2 hp hq d1 d2 z1 z2 ef eg ee;grobner
 rw [ef,eg,ee,eh]
 have nz:2*(Z1*Z2)≠0:=Lm yg (Lm z1 z2)
 generalize 2*(Z1*Z2)=m at*
 generalize 1-d*px*qx*py*qy=v at*
 generalize 1+d*px*qx*py*qy=u at*
 generalize px*qy+qx*py=A at*
 generalize py*qy+px*qx=B at*
 clear ef eg ee eh
 refine ⟨Lm (Lm nz d2) (Lm nz d1),?_,?_,?_⟩<;>(clear hp hq d1 d2 z1 z2 nz;grobner)
def rb:Qt:=⟨0,1,1,0⟩
theorem AAK:Yk rb fD:=⟨Vy,by decide+kernel,by decide+kernel,by decide+kernel⟩
def Wn(P:Qt)(e:Nat):Nat→Qt
 |0=>rb
 |j+1=>if e/2^(255-j)%2=1 then qo (qo (Wn P e j) (Wn P e j)) P else qo (Wn P e j) (Wn P e j)
theorem ACX{P:Qt}{p:Pt}(hp:On p)(h:Yk P p)(e:Nat)(he:e<2^256):∀j,j≤256→Yk (Wn P e j) (dV p (e/2^(256-j))):=by
 intro j
 induction j with
 |zero=>
  intro _
  rw [show e/2^(256-0)=0 from Nat.div_eq_of_lt he]
  exact AAK
 |succ j ih=>
  intro hj
  have h1:=ih O_
  have o1:=bH hp (e/2^(256-j))
  have h2:=ZZ o1 o1 h1 h1
  rw [←AAX hp] at h2
  have hq:e/2^(256-(j+1))=e/2^(256-j)+e/2^(256-j)+e/2^(255-j)%2:=by
   rw [show 256-(j+1)=255-j by omega,show 256-j=(255-j)+1 by omega,Nat.pow_succ,←Nat.div_div_eq_div_mul]
   omega
  rw [Wn,hq]
  by_cases hc:e/2^(255-j)%2=1
  ·rw [if_pos hc,hc]
   exact ZZ (bH hp _) hp h2 h
  ·rw [if_neg hc,show e/2^(255-j)%2=0 by omega]
   exact h2
theorem eG{P:Qt}{p:Pt}(hp:On p)(h:Yk P p)(e:Nat)(he:e<2^256):Yk (Wn P e 256) (dV p e):=by
 have:=ACX hp h e he 256 (Nat.le_refl _)
 rwa [Nat.sub_self,Nat.pow_zero,Nat.div_one] at this
theorem AJZ(y:Fp):dF*(y*y)+1≠0:=fun h=>by
 by_cases hy:y=0
 ·rw [hy] at h
  have:(1:Fp)=0:=by rw [←h];generalize dF=d;grobner
  exact Vy this
 ·refine ja (u:=iF) hy ?_
  rw [xv]
  generalize dF=d at*
  clear hy
  grobner
theorem xg(x y:Fp):On ⟨x,y⟩↔x*x=(y*y-1)*Gi (dF*(y*y)+1):=by
 have h:=B2 (AJZ y)
 have hne:=AJZ y
 unfold On
 simp only
 generalize dF=d at*
 constructor
 ·intro h1
  refine VW hne ?_;clear hne
  grobner
 ·intro h1
  clear hne
  grobner
def bX:Fp:=zf 15112221349535400772501151409588531511454012693041857206046113283949847762202
def bY:Fp:=zf 46316835694926478169428394003475163141307993866256225615783033603165251855960
def pB_:Pt:=⟨bX,bY⟩
theorem ABy:On pB_:=by
 unfold On pB_ bX bY dF
 decide+kernel
def Cl:Nat:=7237005577332262213973186563042994240857116359379907606001950938285454250989
theorem AAe:0<PP:=by decide
def aM:Fp:=zf 121665
def lv(X Z:Fp):Fp×Fp:=((X+Z)*(X+Z)*((X-Z)*(X-Z)),((X+Z)*(X+Z)-(X-Z)*(X-Z))*((X+Z)*(X+Z)+aM*((X+Z)*(X+Z)-(X-Z)*(X-Z))))
def mN(u X Z V W:Fp):Fp×Fp:=(((V-W)*(X+Z)+(V+W)*(X-Z))*((V-W)*(X+Z)+(V+W)*(X-Z)),u*(((V-W)*(X+Z)-(V+W)*(X-Z))*((V-W)*(X+Z)-(V+W)*(X-Z))))
abbrev M4:=Fp×Fp×Fp×Fp
def bO(u:Fp)(b:Bool)(s:M4):M4:=
 match b with
 |false=>((lv s.1 s.2.1).1,(lv s.1 s.2.1).2,(mN u s.1 s.2.1 s.2.2.1 s.2.2.2).1,(mN u s.1 s.2.1 s.2.2.1 s.2.2.2).2)
 |true=>((mN u s.2.2.1 s.2.2.2 s.1 s.2.1).1,(mN u s.2.2.1 s.2.2.2 s.1 s.2.1).2,(lv s.2.2.1 s.2.2.2).1,(lv s.2.2.1 s.2.2.2).2)
def lN(u:Fp)(k:Nat):Nat→M4
 |0=>(1,0,u,1)
 |j+1=>bO u (k.testBit (254-j)) (lN u k j)
def AJe(u:Fp)(k:Nat):Fp:=(lN u k 255).1*Gi (lN u k 255).2.1
end Go.Proofs.YtmbepikkgkcgkaaGreatDoor
namespace Go.Proofs.YtmbepikkgkcgkaaGreatDoor
open Go.RowKit
variable {g r : Prop}
open Go.Proofs.Tryz
def TL(x:AA 64)(v:Fp):Prop:=EB x∧LF x=v
theorem TL.add{a b:AA 64}{u v:Fp}(h:TL a u)(k:TL b v):TL (BG a b) (u+v):=by
 obtain ⟨h1,rfl⟩:=h;obtain ⟨k1,rfl⟩:=k;rw [rJ _ _ h1.1 k1.1];exact LY h1 k1
theorem TL.sub{a b:AA 64}{u v:Fp}(h:TL a u)(k:TL b v):TL (BI a b) (u-v):=by
 obtain ⟨h1,rfl⟩:=h;obtain ⟨k1,rfl⟩:=k;rw [tC _ _ h1.1 k1.1];exact NB h1 k1
theorem TL.mul{a b:AA 64}{u v:Fp}(h:TL a u)(k:TL b v):TL (BC a b) (u*v):=by
 obtain ⟨h1,rfl⟩:=h;obtain ⟨k1,rfl⟩:=k;rw [sU _ _ h1.1 k1.1];exact Cz h1 k1
theorem TL.aM:TL (PQ 121665#64) aM:=by rw [Zc];exact FF (x:=121665#64) D_
theorem TL.one:TL (PQ 1#64) 1:=by rw [Zc];exact FF (x:=1#64) D_
theorem TL.of(b:AA 8)(hb:b.length=32):TL (sS b) (Z b):=by rw [xW b hb];exact ACy b
theorem TL.zero:TL (PQ 0#64) 0:=by rw [Zc];exact FF (x:=0#64) D_
def TL4(x:AA 64×AA 64×AA 64×AA 64)(s:M4):Prop:=TL x.1 s.1∧TL x.2.1 s.2.1∧TL x.2.2.1 s.2.2.1∧TL x.2.2.2 s.2.2.2
def uP(place:AA 8):Fp:=Z (put place 31 ((nth place 31)&&&127#8))
def kN(key:AA 8):Nat:=Gt (SY key) 32
theorem AFH(key place:AA 8)(hkey:key.length=32)(hplace:place.length=32):∀j,j≤255→TL4 (BQ key place j) (lN (uP place) (kN key) j):=by
 intro j
 induction j with
 |zero=>exact fun _=>⟨.one,.zero,.of _ (by simpa using hplace),.one⟩
 |succ j ih=>
  intro hj
  have h:=ih O_
  have hu:TL (sS (put place 31 ((nth place 31)&&&127#8))) (uP place):= .of _ (by simpa using hplace)
  rw [BQ.eq_2,Nn,tE key hkey]
  show TL4 _ (bO _ _ _)
  rw [Nat.testBit_eq_decide_div_mod_eq,jE _ _ O_]
  generalize BQ key place j=x at h
  generalize lN (uP place) (kN key) j=s at h
  obtain ⟨h1,h2,h3,h4⟩:=h
  unfold kN
  by_cases hb:Gt (SY key) 32/2^(254-j)%2=1
  ·rw [decide_eq_true hb]
   simp only [if_true,bO,mN,lv,Gw,Fj,Gv,Fe]
   exact ⟨.mul (.add (.mul (.sub h1 h2) (.add h3 h4)) (.mul (.add h1 h2) (.sub h3 h4))) (.add (.mul (.sub h1 h2) (.add h3 h4)) (.mul (.add h1 h2) (.sub h3 h4))),
    .mul hu (.mul (.sub (.mul (.sub h1 h2) (.add h3 h4)) (.mul (.add h1 h2) (.sub h3 h4))) (.sub (.mul (.sub h1 h2) (.add h3 h4)) (.mul (.add h1 h2) (.sub h3 h4)))),
    .mul (.mul (.add h3 h4) (.add h3 h4)) (.mul (.sub h3 h4) (.sub h3 h4)),
    .mul (.sub (.mul (.add h3 h4) (.add h3 h4)) (.mul (.sub h3 h4) (.sub h3 h4))) (.add (.mul (.add h3 h4) (.add h3 h4)) (.mul .aM (.sub (.mul (.add h3 h4) (.add h3 h4)) (.mul (.sub h3 h4) (.sub h3 h4)))))⟩
  ·rw [decide_eq_false hb]
   simp only [Bool.false_eq_true,if_false,bO,mN,lv,Gw,Fj,Gv,Fe]
   exact ⟨.mul (.mul (.add h1 h2) (.add h1 h2)) (.mul (.sub h1 h2) (.sub h1 h2)),
    .mul (.sub (.mul (.add h1 h2) (.add h1 h2)) (.mul (.sub h1 h2) (.sub h1 h2))) (.add (.mul (.add h1 h2) (.add h1 h2)) (.mul .aM (.sub (.mul (.add h1 h2) (.add h1 h2)) (.mul (.sub h1 h2) (.sub h1 h2))))),
    .mul (.add (.mul (.sub h3 h4) (.add h1 h2)) (.mul (.add h3 h4) (.sub h1 h2))) (.add (.mul (.sub h3 h4) (.add h1 h2)) (.mul (.add h3 h4) (.sub h1 h2))),
    .mul hu (.mul (.sub (.mul (.sub h3 h4) (.add h1 h2)) (.mul (.add h3 h4) (.sub h1 h2))) (.sub (.mul (.sub h3 h4) (.add h1 h2)) (.mul (.add h3 h4) (.sub h1 h2))))⟩
def aB(key place:AA 8):AA 8:=F (AJe (uP place) (kN key))
@[simp] theorem jj(key place:AA 8):(aB key place).length=32:=bT _
theorem AAu(key place:AA 8)(hkey:key.length=32)(hplace:place.length=32):ay key place=aB key place:=by
 unfold ay aB
 obtain ⟨h1,h2,-,-⟩:=AFH key place hkey hplace 255 (Nat.le_refl _)
 obtain ⟨i1,i2⟩:=Z0 h2.1
 rw [h2.2] at i2
 have hq:TL (dU (BQ key place 255).2.1) (Gi (lN (uP place) (kN key) 255).2.1):=by rw [rS _ h2.1.1];exact ⟨i1,i2⟩
 have:=TL.mul h1 hq
 rw [xN _ this.1.1,NP this.1,this.2]
 rfl
theorem AGB(key place:AA 8)(hkey:key.length=32)(hplace:place.length=32):Ev prog (.call 115 [BM key,BM place] []) (.val (BM (aB key place)) []):=by
 rw [←AAu key place hkey hplace];exact wF key place hkey hplace
theorem jy(k:r)(h:Hid r→g:=by intro h;refine Ap (ABf rfl rfl rfl underlying23 underlying23 KM Iz O_ AM) AT rfl ?_;exact h.out):g:=h ⟨k⟩
theorem jC(k:r)(h:Hid r→g:=by intro h;refine AB (B8 (a:=0) (b:=1) rfl rfl O_) rfl ?_;exact h.out):g:=h ⟨k⟩
theorem I3(k:r)(h:Hid r→g:=by intro h;refine Q_ ?_;refine jQ ?_;exact h.out):g:=h ⟨k⟩
theorem iQ(k:r)(h:Hid r→g:=by intro h;refine AB (F1 (j:=1) rfl rfl underlying22 WE O_) rfl ?_;exact h.out):g:=h ⟨k⟩
theorem fy(k:r)(h:Hid r→g:=by intro h;refine AB (B8 (a:=1) (b:=1) rfl rfl O_) rfl ?_;exact h.out):g:=h ⟨k⟩
theorem QC(a:AA 8)(na ca:Nat)(b:AA 8)(nb cb:Nat)(ha:a.length=na)(hna:na≤1099511627776)(hb:b.length=nb)(hnb:nb≤1099511627776):Ev prog (.call 112 [.c (.sl 0 0 2 2 1)] [.row false (.ac [.sl 1 0 na ca 1,.sl 2 0 nb cb 1]),A0 (a),A0 (b)]) (.val (.c (.sl 3 0 (na+nb) (na+nb) 1)) [.row false (.ac [.sl 1 0 na ca 1,.sl 2 0 nb cb 1]),A0 (a),A0 (b),BP (a++b)]):=by
 subst ha
 subst hb
 refine AI func112 rfl ntmps112 rfl AM ?_;refine P3 ?_;refine Ai ?_;refine ABC ?_;refine jQ ?_;refine Ho ?_;refine AB (A8 (a:=0) (b:=2) rfl rfl) rfl ?_;refine Io ?_;refine cn ?_;refine Ix ?_;refine jy ?_;refine BF ?_;refine jC ?_;refine BZ ?_;show WC _ _ _ _ _
 refine I3 ?_;refine Ho ?_;refine AB (A8 (a:=1) (b:=2) rfl rfl) rfl ?_;refine Io ?_;refine iQ ?_;refine Ix ?_;refine DD ?_;refine BF ?_;refine fy ?_;refine BZ ?_;show WC _ _ _ _ _
 refine I3 ?_;refine Ho ?_;refine AB (A8 (a:=2) (b:=2) rfl rfl) rfl ?_;refine Eg ?_;exact CF
def No(key X1 X2:AA 8)(j6:Nat):AA 8×AA 8:=(put X1 j6 ((if j6<key.length then nth key j6 else 0#8)^^^54#8),put X2 j6 ((if j6<key.length then nth key j6 else 0#8)^^^92#8))
def CS(key:AA 8):Nat→AA 8×AA 8
 |0=>(Ac 64,Ac 64)
 |j6+1=>No key (CS key j6).1 (CS key j6).2 j6
@[simp] theorem SH(key:AA 8)(j6:Nat):(CS key j6).1.length=64:=by
 induction j6 with
 |zero=>(simp [CS, *];done)
 |succ j6 ih=>rw [CS.eq_2,No];(simp [ih];done)
@[simp] theorem TB(key:AA 8)(j6:Nat):(CS key j6).2.length=64:=by
 induction j6 with
 |zero=>(simp [CS, *];done)
 |succ j6 ih=>rw [CS.eq_2,No];(simp [ih];done)
def aH(key b:AA 8):AA 8:=ET (((CS key 64).2)++(ET (((CS key 64).1)++b)))
theorem Wj(k:r)(h:Hid r→g:=by intro h;refine AB (AN rfl rfl underlying105 Bt O_) rfl ?_;exact h.out):g:=h ⟨k⟩
theorem jr(k:r)(h:Hid r→g:=by intro h;refine AB (IH (l:=0) (h:=64) (len:=64) (cp:=64) rfl underlying105 Bt rfl rfl rfl O_ O_ T6 rfl rfl) rfl ?_;exact h.out):g:=h ⟨k⟩
theorem bK(k:r)(h:Hid r→g:=by intro h;refine AH (IH (l:=0) (h:=64) (len:=64) (cp:=64) rfl underlying105 Bt rfl rfl rfl O_ O_ T6 rfl rfl) rfl ?_;exact h.out):g:=h ⟨k⟩
theorem FI(k:r)(h:Hid r→g:=by intro h;refine AH (IH (l:=0) (h:=32) (len:=32) (cp:=32) rfl underlying37 Bt rfl rfl rfl O_ O_ T6 rfl rfl) rfl ?_;exact h.out):g:=h ⟨k⟩
theorem Ur(k:r)(h:Hid r→g:=by intro h;refine Hn (AEL underlying22 AA1 (xz _) rfl CS_ D_ D_ AM) AT rfl ?_;exact h.out):g:=h ⟨k⟩
theorem I8(k:r)(h:Hid r→g:=by intro h;refine BJ ?_;refine Bs rfl rfl rfl rfl Pg B7 B7 AT ?_;exact h.out):g:=h ⟨k⟩
theorem uj(key:AA 8)(kn kcap:Nat)(b:AA 8)(n cap:Nat)(hkey:key.length=kn)(hkn:kn≤1099511627776)(hb:b.length=n)(hn:n≤1099511627776)(hshort:kn≤64):Ev prog (.call 89 [.c (.sl 0 0 kn kcap 1),.c (.sl 1 0 n cap 1)] [A0 (key),A0 (b)]) (.val (BM (aH key b)) [A0 (key),A0 (b)]):=by
 have hP:=Hid.mk (aH.eq_1 key b)
 subst hkey
 subst hb
 refine AI func89 rfl ntmps89 rfl AM ?_;refine Ab ?_;refine It ?_;refine F6 ?_;refine F6 ?_;refine Jk ?_;refine bm ?_;refine EA ?_;refine Cg rfl (decide_eq_false O_) ?_;refine Ab ?_;refine Al ?_;refine AK [0,1,4,5,6,8] (fun (zz:Nat×AA 8×AA 8)=>⟨47,AU [0,1,4,5,6,8] [.c (.sl 0 0 key.length kcap 1),.c (.sl 1 0 b.length cap 1),AY 2,AY 3,AY 4,At (((zz.1:Nat):Int))],[A0 (key),A0 (b),BP (Ac 32),BP (zz.2.1),BP (zz.2.2)]⟩) (fun j6=>(j6,CS key j6)) (64) K_ ?_ ?_
 ·intro j6 hj6
  try dsimp only
  have hX1:(CS key j6).1.length=64:=by rw [SH key _];try omega
  have hX2:(CS key j6).2.length=64:=by rw [TB key _];try omega
  rw [CS.eq_2,No]
  generalize CS key j6=Z3 at*
  obtain ⟨X1,X2⟩:=Z3
  try dsimp only at*
  refine Hh ?_;refine AZ ?_;refine Be ?_;refine Hc ?_;refine EA ?_;refine Eb [0,1,4,5,6,8,9] (fun (zz:BitVec 8)=>⟨47,AU [0,1,4,5,6,8,9] [.c (.sl 0 0 key.length kcap 1),.c (.sl 1 0 b.length cap 1),AY 2,AY 3,AY 4,At (((j6:Nat):Int)),.c (.val (U8 (zz)))],[A0 (key),A0 (b),BP (Ac 32),BP (X1),BP (X2)]⟩) (if j6<key.length then nth key j6 else 0#8) rfl (fun hb=>?_) (fun hb=>?_) ?_
  ·have hb_:=of_decide_eq_true hb
   refine CK ?_;refine Ju ?_;refine GA ?_;refine Al ?_;refine ⟨(nth key j6),K_,?_⟩
   rw [if_pos (of_decide_eq_true hb)]
  ·have hb_:=of_decide_eq_false hb
   refine S_ ?_;refine ⟨0#8,K_,?_⟩
   rw [if_neg (of_decide_eq_false hb)]
  generalize (if j6<key.length then nth key j6 else 0#8)=J4 at*
  refine CK ?_;refine AX ?_;refine AB (OW (b:=54#8) rfl rfl) rfl ?_;refine AX ?_;refine AB (OW (b:=92#8) rfl rfl) rfl ?_;refine Wj ?_;refine Ct ?_;refine Wj ?_;refine Ct ?_;refine Cc ?_;exact ⟨(j6+1,_),K_,rfl⟩
 ·try dsimp only
  have hY5:(CS key 64).1.length=64:=by rw [SH key _];try omega
  have hY6:(CS key 64).2.length=64:=by rw [TB key _];try omega
  generalize CS key 64=Z7 at*
  obtain ⟨Y5,Y6⟩:=Z7
  try dsimp only at*
  refine A1 ?_;refine Lr ?_;refine AZ ?_;refine jr ?_;refine AX ?_;refine dy ?_;refine CQ (Ah (bs:=[5,3,1]) (QC Y5 64 64 b b.length cap AD AD AD AD) aL K_ K_ rfl B4) AT rfl ?_;refine CQ (Ah (bs:=[6]) (Pf (Y5++b) (64+b.length) (64+b.length) AD AD) mQ K_ K_ rfl B4) AT rfl ?_;refine Gf ?_;refine AR ?_;have hQ8:(Y5++b).length=64+b.length:=AP
  have hQ9:(ET (Y5++b)).length=32:=AP
  refine In ?_;refine bK ?_;refine FI ?_;refine Ur ?_;refine Hw (Ah (bs:=[8,4,7]) (QC Y6 64 64 (ET (Y5++b)) 32 32 AD AD AD AD) aL K_ K_ rfl B4) AT rfl ?_;refine Hw (Ah (bs:=[9]) (Pf (Y6++(ET (Y5++b))) (64+32) (64+32) AD AD) mQ K_ K_ rfl B4) AT rfl ?_;refine I8 ?_;refine AR ?_;have hQ10:(Y6++(ET (Y5++b))).length=64+32:=AP
  have hQ11:(ET (Y6++(ET (Y5++b)))).length=32:=AP
  refine S_ ?_;rw [hP.out]
  exact Ec
attribute [irreducible] aH
def OB(key X2 X3:AA 8)(j6:Nat):AA 8×AA 8:=(put X2 j6 ((if j6<32 then nth (ET key) j6 else 0#8)^^^54#8),put X3 j6 ((if j6<32 then nth (ET key) j6 else 0#8)^^^92#8))
def CT(key:AA 8):Nat→AA 8×AA 8
 |0=>(Ac 64,Ac 64)
 |j6+1=>OB key (CT key j6).1 (CT key j6).2 j6
@[simp] theorem SF(key:AA 8)(j6:Nat):(CT key j6).1.length=64:=by
 induction j6 with
 |zero=>(simp [CT, *];done)
 |succ j6 ih=>rw [CT.eq_2,OB];(simp [ih];done)
@[simp] theorem TG(key:AA 8)(j6:Nat):(CT key j6).2.length=64:=by
 induction j6 with
 |zero=>(simp [CT, *];done)
 |succ j6 ih=>rw [CT.eq_2,OB];(simp [ih];done)
def aR(key b:AA 8):AA 8:=ET (((CT key 64).2)++(ET (((CT key 64).1)++b)))
theorem vb(key:AA 8)(kn kcap:Nat)(b:AA 8)(n cap:Nat)(hkey:key.length=kn)(hkn:kn≤1099511627776)(hb:b.length=n)(hn:n≤1099511627776)(hlong:64<kn):Ev prog (.call 89 [.c (.sl 0 0 kn kcap 1),.c (.sl 1 0 n cap 1)] [A0 (key),A0 (b)]) (.val (BM (aR key b)) [A0 (key),A0 (b)]):=by
 have hP:=Hid.mk (aR.eq_1 key b)
 subst hkey
 subst hb
 refine AI func89 rfl ntmps89 rfl AM ?_;refine Ab ?_;refine It ?_;refine F6 ?_;refine F6 ?_;refine Jk ?_;refine bm ?_;refine EA ?_;refine FJ rfl (decide_eq_true O_) ?_;refine A1 ?_;refine bM (Pf key key.length kcap AD AD) mQ ?_;refine Gf ?_;refine AR ?_;have hQ1:(ET key).length=32:=AP
 refine Ab ?_;refine O5 ?_;refine Ai ?_;refine Al ?_;refine AK [0,1,4,5,6,8] (fun (zz:Nat×AA 8×AA 8)=>⟨47,AU [0,1,4,5,6,8] [.c (.sl 2 0 32 32 1),.c (.sl 1 0 b.length cap 1),AY 3,AY 4,AY 5,At (((zz.1:Nat):Int))],[A0 (key),A0 (b),BP (ET key),BP (Ac 32),BP (zz.2.1),BP (zz.2.2)]⟩) (fun j6=>(j6,CT key j6)) (64) K_ ?_ ?_
 ·intro j6 hj6
  try dsimp only
  have hX2:(CT key j6).1.length=64:=by rw [SF key _];try omega
  have hX3:(CT key j6).2.length=64:=by rw [TG key _];try omega
  rw [CT.eq_2,OB]
  generalize CT key j6=Z4 at*
  obtain ⟨X2,X3⟩:=Z4
  try dsimp only at*
  refine Hh ?_;refine AZ ?_;refine Be ?_;refine D7 ?_;refine Oi ?_;refine EA ?_;refine Eb [0,1,4,5,6,8,9] (fun (zz:BitVec 8)=>⟨47,AU [0,1,4,5,6,8,9] [.c (.sl 2 0 32 32 1),.c (.sl 1 0 b.length cap 1),AY 3,AY 4,AY 5,At (((j6:Nat):Int)),.c (.val (U8 (zz)))],[A0 (key),A0 (b),BP (ET key),BP (Ac 32),BP (X2),BP (X3)]⟩) (if j6<32 then nth (ET key) j6 else 0#8) rfl (fun hb=>?_) (fun hb=>?_) ?_
  ·have hb_:=of_decide_eq_true hb
   refine CK ?_;refine Ju ?_;refine GA ?_;refine Al ?_;refine ⟨(nth (ET key) j6),K_,?_⟩
   rw [if_pos (of_decide_eq_true hb)]
  ·have hb_:=of_decide_eq_false hb
   refine S_ ?_;refine ⟨0#8,K_,?_⟩
   rw [if_neg (of_decide_eq_false hb)]
  generalize (if j6<32 then nth (ET key) j6 else 0#8)=J5 at*
  refine CK ?_;refine AX ?_;refine AB (OW (b:=54#8) rfl rfl) rfl ?_;refine AX ?_;refine AB (OW (b:=92#8) rfl rfl) rfl ?_;refine Wj ?_;refine Ct ?_;refine Wj ?_;refine Ct ?_;refine Cc ?_;exact ⟨(j6+1,_),K_,rfl⟩
 ·try dsimp only
  have hY6:(CT key 64).1.length=64:=by rw [SF key _];try omega
  have hY7:(CT key 64).2.length=64:=by rw [TG key _];try omega
  generalize CT key 64=Z8 at*
  obtain ⟨Y6,Y7⟩:=Z8
  try dsimp only at*
  refine A1 ?_;refine Lr ?_;refine AZ ?_;refine jr ?_;refine AX ?_;refine dy ?_;refine CQ (Ah (bs:=[6,4,1]) (QC Y6 64 64 b b.length cap AD AD AD AD) aL K_ K_ rfl B4) AT rfl ?_;refine sR (Pf (Y6++b) (64+b.length) (64+b.length) AD AD) mQ ?_;refine Gf ?_;refine AR ?_;have hQ9:(Y6++b).length=64+b.length:=AP
  have hQ10:(ET (Y6++b)).length=32:=AP
  refine In ?_;refine bK ?_;refine FI ?_;refine Ur ?_;refine Hw (Ah (bs:=[9,5,8]) (QC Y7 64 64 (ET (Y6++b)) 32 32 AD AD AD AD) aL K_ K_ rfl B4) AT rfl ?_;refine Hw (Ah (bs:=[10]) (Pf (Y7++(ET (Y6++b))) (64+32) (64+32) AD AD) mQ K_ K_ rfl B4) AT rfl ?_;refine I8 ?_;refine AR ?_;have hQ11:(Y7++(ET (Y6++b))).length=64+32:=AP
  have hQ12:(ET (Y7++(ET (Y6++b)))).length=32:=AP
  refine S_ ?_;rw [hP.out]
  exact Ec
attribute [irreducible] aR
def eJ(key b:AA 8):AA 8:=if 64<key.length then aR key b else aH key b
theorem AAo(key:AA 8)(kn kcap:Nat)(b:AA 8)(n cap:Nat)(hkey:key.length=kn)(hkn:kn≤1099511627776)(hb:b.length=n)(hn:n≤1099511627776):Ev prog (.call 89 [.c (.sl 0 0 kn kcap 1),.c (.sl 1 0 n cap 1)] [A0 key,A0 b]) (.val (BM (eJ key b)) [A0 key,A0 b]):=by
 unfold eJ
 by_cases h:64<key.length
 ·rw [if_pos h];exact vb key kn kcap b n cap hkey hkn hb hn O_
 ·rw [if_neg h];exact uj key kn kcap b n cap hkey hkn hb hn O_
attribute [irreducible] eJ
theorem AF8(n j:Nat):nth (Ac n) j=0#8:=by
 unfold nth Ac
 rw [List.getD_eq_getElem?_getD,List.getElem?_replicate]
 split<;>rfl
theorem rX{n:Nat}(l:AA n)(i:Nat)(h:l.length≤i):nth l i=0:=by
 unfold nth;rw [List.getD_eq_getElem?_getD,List.getElem?_eq_none h];rfl
theorem sJ{n:Nat}{a b:AA n}(hl:a.length=b.length)(h:∀i,i<a.length→nth a i=nth b i):a=b:=by
 refine List.ext_getElem hl fun i h1 h2=>?_
 have:=h i h1
 rwa [Qp a i h1,Qp b i h2] at this
def my(k:AA 8)(c:BitVec 8):AA 8:=(List.range 64).map fun i=>nth k i^^^c
theorem bU(k:AA 8)(c:BitVec 8):(my k c).length=64:=by simp [my]
theorem mC(k:AA 8)(c:BitVec 8)(i:Nat)(h:i<64):nth (my k c) i=nth k i^^^c:=by
 rw [Qp _ _ (by rw [bU];exact h)]
 simp [my]
def mA(k b:AA 8):AA 8:=BR (my k 92#8++BR (my k 54#8++b))
def Ry(c:BitVec 8)(l:AA 8):Nat→AA 8
 |0=>l
 |j+1=>put (Ry c l j) j (nth (Ry c l j) j^^^c)
theorem XA(c:BitVec 8)(l:AA 8)(j:Nat):(Ry c l j).length=l.length:=by
 induction j with
 |zero=>rfl
 |succ j ih=>rw [Ry,BW,ih]
theorem wI(c:BitVec 8)(l:AA 8)(i:Nat):∀j,j≤l.length→nth (Ry c l j) i=if i<j then nth l i^^^c else nth l i:=by
 intro j
 induction j with
 |zero=>intro _;rw [if_neg O_];rfl
 |succ j ih=>
  intro hj
  rw [Ry,CD _ _ _ _ (by rw [XA];omega)]
  by_cases e:j=i
  ·subst e;rw [if_pos rfl,if_pos O_,ih O_,if_neg O_]
  ·rw [if_neg e,ih O_]
   by_cases h:i<j
   ·rw [if_pos h,if_pos O_]
   ·rw [if_neg h,if_neg O_]
def Rx(c:BitVec 8)(k:AA 8)(n:Nat):Nat→AA 8
 |0=>Ac 64
 |j+1=>put (Rx c k n j) j ((if j<n then nth k j else 0#8)^^^c)
theorem Wx(c:BitVec 8)(k:AA 8)(n j:Nat):(Rx c k n j).length=64:=by
 induction j with
 |zero=>simp [Rx]
 |succ j ih=>rw [Rx,BW,ih]
theorem vF(c:BitVec 8)(k:AA 8)(n i:Nat):∀j,j≤64→i<j→nth (Rx c k n j) i=(if i<n then nth k i else 0#8)^^^c:=by
 intro j
 induction j with
 |zero=>intro _ h;omega
 |succ j ih=>
  intro hj hi
  rw [Rx,CD _ _ _ _ (by rw [Wx];omega)]
  by_cases e:j=i
  ·subst e;rw [if_pos rfl]
  ·rw [if_neg e,ih O_ O_]
theorem ZV(c:BitVec 8)(k:AA 8)(n:Nat)(h:k.length=n):Rx c k n 64=my k c:=
 sJ (by rw [Wx,bU]) fun i hi=>by
  rw [Wx] at hi
  rw [vF _ _ _ _ 64 O_ hi,mC _ _ _ hi]
  split
  ·rfl
  ·rw [rX k i O_];rfl
theorem ul(k:AA 8)(i:Nat)(h:k.length≤64):nth (over (Ac 64) 0 k) i=nth k i:=by
 unfold nth
 rw [Lb _ _ _ _ _ (by simp;exact h)]
 by_cases hi:i<k.length
 ·rw [if_pos O_];rfl
 ·rw [if_neg O_]
  have h1:=AF8 64 i
  have h2:=rX k i O_
  unfold nth at h1 h2
  rw [h1,h2];rfl
theorem ZI(c:BitVec 8)(k:AA 8)(h:k.length≤64):Ry c (over (Ac 64) 0 k) 64=my k c:=by
 have hl:(over (Ac 64) 0 k).length=64:=by rw [AA7];simp;omega
 refine sJ (by rw [XA,bU,hl]) fun i hi=>?_
 rw [XA,hl] at hi
 rw [wI _ _ _ 64 (by rw [hl];omega),if_pos hi,mC _ _ _ hi,ul k i h]
theorem s8(key:AA 8)(j:Nat):B1 key j=(Ry 54#8 (over (Ac 64) 0 (cut key 0 (min key.length 64))) j,Ry 92#8 (over (Ac 64) 0 (cut key 0 (min key.length 64))) j):=by
 induction j with
 |zero=>rfl
 |succ j ih=>rw [B1.eq_2,ih];rfl
theorem l8(key:AA 8)(j:Nat):Bw key j=(Ry 54#8 (over (Ac 64) 0 (BR key)) j,Ry 92#8 (over (Ac 64) 0 (BR key)) j):=by
 induction j with
 |zero=>rfl
 |succ j ih=>rw [Bw.eq_2,ih];rfl
theorem s6(key:AA 8)(j:Nat):CS key j=(Rx 54#8 key key.length j,Rx 92#8 key key.length j):=by
 induction j with
 |zero=>rfl
 |succ j ih=>rw [CS.eq_2,ih];rfl
theorem l6(key:AA 8)(j:Nat):CT key j=(Rx 54#8 (ET key) 32 j,Rx 92#8 (ET key) 32 j):=by
 induction j with
 |zero=>rfl
 |succ j ih=>rw [CT.eq_2,ih];rfl
def keyOf(key:AA 8):AA 8:=if 64<key.length then BR key else key
theorem Rn(key b:AA 8):Fv key b=mA (keyOf key) b:=by
 unfold Fv keyOf
 split
 ·unfold Q6 mA
  rw [l8,ZI _ _ (by simp),ZI _ _ (by simp)]
 ·unfold Qz mA
  rename_i h
  rw [s8,show min key.length 64=key.length by omega,IE rfl,ZI _ _ O_,ZI _ _ O_]
theorem pS(key b:AA 8):eJ key b=mA (keyOf key) b:=by
 unfold eJ keyOf
 split
 ·unfold aR mA
  rw [l6,ZV _ _ _ (by simp),ZV _ _ _ (by simp),Lc,Lc,Lc]
 ·unfold aH mA
  rw [s6,ZV _ _ _ rfl,ZV _ _ _ rfl,Lc,Lc]
theorem xt(key b:AA 8):eJ key b=Fv key b:=by rw [Rn,pS]
theorem tw(key:AA 8)(kn kcap:Nat)(b:AA 8)(n cap:Nat)(hkey:key.length=kn)(hkn:kn≤1099511627776)(hb:b.length=n)(hn:n≤1099511627776):Ev prog (.call 80 [.c (.sl 0 0 kn kcap 1),.c (.sl 1 0 n cap 1)] [A0 (key),A0 (b)]) (.val (BM (Fv key b)) [A0 (key),A0 (b)]):=by
 subst hkey
 subst hb
 refine AI func80 rfl ntmps80 rfl AM ?_;refine Ab ?_;refine Dr ?_;refine GW ?_;refine CQ (Ah (bs:=[0,1]) (eo key key.length kcap b b.length cap AD AD AD AD) xc K_ K_ rfl B4) AT rfl ?_;refine Gr ?_;refine AR ?_;have hQ1:(Fv key b).length=32:=AP
 refine S_ ?_;exact Ec
theorem tV(key:AA 8)(kn kcap:Nat)(b:AA 8)(n cap:Nat)(hkey:key.length=kn)(hkn:kn≤1099511627776)(hb:b.length=n)(hn:n≤1099511627776):Ev prog (.call 89 [.c (.sl 0 0 kn kcap 1),.c (.sl 1 0 n cap 1)] [A0 key,A0 b]) (.val (BM (Fv key b)) [A0 key,A0 b]):=by
 rw [←xt];exact AAo key kn kcap b n cap hkey hkn hb hn
def Ph(X1:AA 8):AA 8:=X1++[0#8]
def D2(tx:AA 8):Nat→AA 8
 |0=>tx++[128#8]
 |j3+1=>Ph (D2 tx j3)
@[simp] theorem NV(tx:AA 8)(j3:Nat):(D2 tx j3).length=(tx.length+1)+j3:=by
 induction j3 with
 |zero=>(simp [D2, *];done)
 |succ j3 ih=>rw [D2.eq_2,Ph];(simp [ih];omega)
def Fi(tx:AA 8):AA 8:=Cs (Cs (D2 tx ((240-(tx.length+1)%128)%128)) ((BitVec.ofNat 64 tx.length)>>>61)) ((BitVec.ofNat 64 tx.length)<<<3)
theorem jU(k:r)(h:Hid r→g:=by intro h;refine AB (OU (b:=128) rfl rfl O_ O_) rfl ?_;exact h.out):g:=h ⟨k⟩
theorem pj(b:AA 8)(o n cap:Nat)(hb:o+n≤b.length)(hn:n≤4398046511104):Ev prog (.call 61 [.c (.sl 0 o n cap 1),At ((128:Nat):Int),At ((16:Nat):Int)] [A0 (b)]) (.val (.c (.sl 1 0 ((((n+1)+(240-(n+1)%128)%128)+8)+8) ((((n+1)+(240-(n+1)%128)%128)+8)+8) 1)) [A0 (b),BP (Fi (cut b o n))]):=by
 have hP:=Hid.mk (Fi.eq_1 (cut b o n))
 have htx:(cut b o n).length=n:=by rw [BV];omega
 try simp only [htx] at hP
 refine AI func61 rfl ntmps61 rfl AM ?_;refine P3 ?_;refine UF ?_;refine AX ?_;refine Wy ?_;refine BF ?_;refine gQ ?_;refine DD ?_;refine Al ?_;refine AK [0,1,2,7] (fun (zz:Nat×AA 8)=>⟨41,AU [0,1,2,7] [.c (.sl 0 o n cap 1),At (((128:Nat):Int)),At (((16:Nat):Int)),.c (.sl 1 0 ((n+1)+zz.1) ((n+1)+zz.1) 1)],[A0 (b),BP (zz.2)]⟩) (fun j3=>(j3,D2 (cut b o n) j3)) ((240-(n+1)%128)%128) K_ ?_ ?_
 ·intro j3 hj3
  try dsimp only
  have hX1:(D2 (cut b o n) j3).length=(n+1)+j3:=by rw [NV (cut b o n) _];try omega
  rw [D2.eq_2,Ph]
  try simp only [htx]
  generalize D2 (cut b o n) j3=X1 at*
  refine JI ?_;refine AX ?_;refine jU ?_;refine LU ?_;refine AB (E4 (a:=128) (b:=16) rfl rfl O_ O_) rfl ?_;refine AB (Ko (b:=112) rfl rfl) rfl ?_;refine Ak ?_;refine Wf ?_;refine DD ?_;refine BZ ?_;exact ⟨(j3+1,_),K_,rfl⟩
 ·try dsimp only
  have hY2:(D2 (cut b o n) ((240-(n+1)%128)%128)).length=(n+1)+(240-(n+1)%128)%128:=by rw [NV (cut b o n) _];try omega
  generalize D2 (cut b o n) ((240-(n+1)%128)%128)=Y2 at*
  refine JI ?_;refine AX ?_;refine jU ?_;refine LU ?_;refine AB (E4 (a:=128) (b:=16) rfl rfl O_ O_) rfl ?_;refine AB (Ko (b:=112) rfl rfl) rfl ?_;refine Jk ?_;refine Yr ?_;refine BF ?_;refine AZ ?_;refine AB (DC (a:=16) (b:=16) rfl rfl) rfl ?_;refine BZ ?_;have hQ3:(Cs Y2 ((BitVec.ofNat 64 n)>>>61)).length=((n+1)+(240-(n+1)%128)%128)+8:=AP
  refine CK ?_;refine AB (CW (j:=61) rfl rfl) rfl ?_;refine Hl (MB (bs:=[1]) (QV Y2 ((n+1)+(240-(n+1)%128)%128) ((n+1)+(240-(n+1)%128)%128) ((BitVec.ofNat 64 n)>>>61) AD AD) pH K_ rfl rfl B4 AT) rfl ?_;refine BZ ?_;have hQ4:(Cs (Cs Y2 ((BitVec.ofNat 64 n)>>>61)) ((BitVec.ofNat 64 n)<<<3)).length=(((n+1)+(240-(n+1)%128)%128)+8)+8:=AP
  refine CK ?_;refine AB (CM (j:=3) rfl rfl) rfl ?_;refine aK (QV (Cs Y2 ((BitVec.ofNat 64 n)>>>61)) (((n+1)+(240-(n+1)%128)%128)+8) (((n+1)+(240-(n+1)%128)%128)+8) ((BitVec.ofNat 64 n)<<<3) AD AD) pH ?_;refine BF ?_;refine Al ?_;rw [hP.out]
  exact CF
@[simp] theorem AEW(tx:AA 8):(Fi tx).length=(((tx.length+1)+(240-(tx.length+1)%128)%128)+8)+8:=by
 unfold Fi
 (simp [NV, *];done)
attribute [irreducible] Fi
def Nv(tx:AA 8)(j4:Nat)(X4:AA 64)(j8:Nat):AA 64:=if j8<16 then put X4 j8 (MR (Fi tx) ((128*j4)+(8*j8)) (((8*j8)+8)-(8*j8))) else put X4 j8 ((((nth X4 (j8-16))+(((Hf (nth X4 (j8-15)) (-1))^^^(Hf (nth X4 (j8-15)) (-8)))^^^((nth X4 (j8-15))>>>7)))+(nth X4 (j8-7)))+(((Hf (nth X4 (j8-2)) (-19))^^^(Hf (nth X4 (j8-2)) (-61)))^^^((nth X4 (j8-2))>>>6)))
def Dx(tx:AA 8)(j4:Nat):Nat→AA 64
 |0=>AC 80
 |j8+1=>Nv tx j4 (Dx tx j4 j8) j8
@[simp] theorem IX(tx:AA 8)(j4 j8:Nat):(Dx tx j4 j8).length=80:=by
 induction j8 with
 |zero=>(simp [Dx, *];done)
 |succ j8 ih=>rw [Dx.eq_2,Nv];(split<;>first | (simp [ih];done) | (simp [ih];omega) | (simp [*];done))
def MH(Y5 X6:AA 64)(j19:Nat):AA 64:=[(((((nth X6 7)+(((Hf (nth X6 4) (-14))^^^(Hf (nth X6 4) (-18)))^^^(Hf (nth X6 4) (-41))))+(((nth X6 4)&&&(nth X6 5))^^^((~~~(nth X6 4))&&&(nth X6 6))))+(nth H8 j19))+(nth Y5 j19))+((((Hf (nth X6 0) (-28))^^^(Hf (nth X6 0) (-34)))^^^(Hf (nth X6 0) (-39)))+((((nth X6 0)&&&(nth X6 1))^^^((nth X6 0)&&&(nth X6 2)))^^^((nth X6 1)&&&(nth X6 2)))),nth X6 0,nth X6 1,nth X6 2,(nth X6 3)+(((((nth X6 7)+(((Hf (nth X6 4) (-14))^^^(Hf (nth X6 4) (-18)))^^^(Hf (nth X6 4) (-41))))+(((nth X6 4)&&&(nth X6 5))^^^((~~~(nth X6 4))&&&(nth X6 6))))+(nth H8 j19))+(nth Y5 j19)),nth X6 4,nth X6 5,nth X6 6]
def D6(X3 Y5:AA 64):Nat→AA 64
 |0=>X3
 |j19+1=>MH Y5 (D6 X3 Y5 j19) j19
theorem JK(X3 Y5:AA 64)(hX3:X3.length=8)(_hY5:Y5.length=80)(j19:Nat):(D6 X3 Y5 j19).length=8:=by
 induction j19 with
 |zero=>(simp [D6, *];done)
 |succ j19 ih=>rw [D6.eq_2,MH];(simp;done)
def P4(Y7 X8:AA 64)(j29:Nat):AA 64:=put X8 j29 ((nth X8 j29)+(nth Y7 j29))
def Dw(X3 Y7:AA 64):Nat→AA 64
 |0=>X3
 |j29+1=>P4 Y7 (Dw X3 Y7 j29) j29
theorem JV(X3 Y7:AA 64)(hX3:X3.length=8)(j29:Nat):(Dw X3 Y7 j29).length=8:=by
 induction j29 with
 |zero=>(simp [Dw, *];done)
 |succ j29 ih=>rw [Dw.eq_2,P4];(simp [ih];done)
def Nt(tx:AA 8)(X3:AA 64)(j4:Nat):AA 64:=(Dw X3 (D6 X3 (Dx tx j4 80) 80) 8)
def Eu(tx:AA 8):Nat→AA 64
 |0=>[7640891576956012808#64,13503953896175478587#64,4354685564936845355#64,11912009170470909681#64,5840696475078001361#64,11170449401992604703#64,2270897969802886507#64,6620516959819538809#64]
 |j4+1=>Nt tx (Eu tx j4) j4
@[simp] theorem OO(tx:AA 8)(j4:Nat):(Eu tx j4).length=8:=by
 induction j4 with
 |zero=>(simp [Eu, *];done)
 |succ j4 ih=>rw [Eu.eq_2,Nt];(simp [JV, *];done)
def Ma(Y11:AA 64)(X12:AA 8)(j35:Nat):AA 8:=put X12 j35 (((nth Y11 (j35/8))>>>(56-(8*(j35%8)))).setWidth 8)
def D0(Y11:AA 64):Nat→AA 8
 |0=>Ac 64
 |j35+1=>Ma Y11 (D0 Y11 j35) j35
@[simp] theorem NA(Y11:AA 64)(j35:Nat):(D0 Y11 j35).length=64:=by
 induction j35 with
 |zero=>(simp [D0, *];done)
 |succ j35 ih=>rw [D0.eq_2,Ma];(simp [ih];done)
def HJ(tx:AA 8):AA 8:=(D0 (Eu tx ((tx.length+144)/128)) 64)
theorem zJ(k:r)(h:Hid r→g:=by intro h;refine AB (JX (l:=[7640891576956012808#64,13503953896175478587#64,4354685564936845355#64,11912009170470909681#64,5840696475078001361#64,11170449401992604703#64,2270897969802886507#64,6620516959819538809#64]) qC underlying153 Am rfl rfl D_) rfl ?_;exact h.out):g:=h ⟨k⟩
theorem QB(k:r)(h:Hid r→g:=by intro h;refine Ap (Ay AEu AM) AT rfl ?_;exact h.out):g:=h ⟨k⟩
theorem QR(k:r)(h:Hid r→g:=by intro h;refine Bs rfl rfl rfl rfl nS B7 B7 AT ?_;exact h.out):g:=h ⟨k⟩
theorem I2(k:r)(h:Hid r→g:=by intro h;refine AH (AN rfl rfl underlying201 Am O_) rfl ?_;exact h.out):g:=h ⟨k⟩
theorem Oh(k:r)(h:Hid r→g:=by intro h;refine AB (tT rfl rfl) rfl ?_;exact h.out):g:=h ⟨k⟩
theorem RI(k:r)(h:Hid r→g:=by intro h;refine AH (Tv rfl rfl) rfl ?_;refine AH (Ao rfl) rfl ?_;exact h.out):g:=h ⟨k⟩
theorem ju(k:r)(h:Hid r→g:=by intro h;refine AB (A8 (a:=80) (b:=80) rfl rfl) rfl ?_;exact h.out):g:=h ⟨k⟩
theorem fz(k:r)(h:Hid r→g:=by intro h;refine AB (A9 rfl rfl so nS B7 D_) rfl ?_;exact h.out):g:=h ⟨k⟩
theorem Ul(k:r)(h:Hid r→g:=by intro h;refine AH (Gk rfl rfl) rfl ?_;exact h.out):g:=h ⟨k⟩
theorem L0(k:r)(h:Hid r→g:=by intro h;refine AH (tT rfl rfl) rfl ?_;exact h.out):g:=h ⟨k⟩
theorem Xo(k:r)(h:Hid r→g:=by intro h;refine AB (AN (j:=1) rfl rfl underlying153 Am O_) rfl ?_;exact h.out):g:=h ⟨k⟩
theorem W4(k:r)(h:Hid r→g:=by intro h;refine AB (AN (j:=2) rfl rfl underlying153 Am O_) rfl ?_;exact h.out):g:=h ⟨k⟩
theorem jP(k:r)(h:Hid r→g:=by intro h;refine AB (AN (j:=3) rfl rfl underlying153 Am O_) rfl ?_;exact h.out):g:=h ⟨k⟩
theorem oa(k:r)(h:Hid r→g:=by intro h;refine AB (AN (j:=5) rfl rfl underlying153 Am O_) rfl ?_;exact h.out):g:=h ⟨k⟩
theorem qH(k:r)(h:Hid r→g:=by intro h;refine AB (AN (j:=6) rfl rfl underlying153 Am O_) rfl ?_;exact h.out):g:=h ⟨k⟩
theorem QF(k:r)(h:Hid r→g:=by intro h;refine AH (AN rfl rfl underlying153 Am O_) rfl ?_;exact h.out):g:=h ⟨k⟩
theorem bC(k:r)(h:Hid r→g:=by intro h;refine AB (AN rfl rfl underlying153 Am O_) rfl ?_;exact h.out):g:=h ⟨k⟩
theorem uE(b:AA 8)(o n cap:Nat)(hb:o+n≤b.length)(hn:n≤2199023255552):Ev prog (.call 129 [.c (.sl 0 o n cap 1)] [A0 (b)]) (.val (BM (HJ (cut b o n))) [A0 (b)]):=by
 have hP:=Hid.mk (HJ.eq_1 (cut b o n))
 have htx:(cut b o n).length=n:=by rw [BV];omega
 try simp only [htx] at hP
 refine AI func129 rfl ntmps129 rfl AM ?_;refine Ab ?_;refine F6 ?_;refine AZ ?_;refine zJ ?_;refine QB ?_;refine QR ?_;refine AR ?_;have hQ1:(H8).length=80:=AP
 refine Ab ?_;refine Ae (pM) AFR ?_;refine BZ ?_;have hQ2:(Fi (cut b o n)).length=(((n+1)+(240-(n+1)%128)%128)+8)+8:=AP
 refine A1 ?_;refine bM (pj b o n cap AD AD) ADl ?_;refine Al ?_;refine AK [2,3,4,5] (fun (zz:Nat×AA 64)=>⟨200,AU [2,3,4,5] [AY 1,AY 2,.c (.sl 3 0 80 80 1),.c (.sl 4 (128*zz.1) (((((n+1)+(240-(n+1)%128)%128)+8)+8)-128*zz.1) (((((n+1)+(240-(n+1)%128)%128)+8)+8)-128*zz.1) 1)],[A0 (b),BP (Ac 64),Bb (zz.2),Bb (H8),BP (Fi (cut b o n))]⟩) (fun j4=>(j4,Eu (cut b o n) j4)) ((n+144)/128) K_ ?_ ?_
 ·intro j4 hj4
  try dsimp only
  have hX3:(Eu (cut b o n) j4).length=8:=by rw [OO (cut b o n) _];try omega
  rw [Eu.eq_2,Nt]
  try simp only [htx]
  generalize Eu (cut b o n) j4=X3 at*
  refine JI ?_;refine YS ?_;refine AZ ?_;refine Ap (Ay ib AM) AT rfl ?_;refine FA ?_;refine AK [2,3,4,5,6,32] (fun (zz:Nat×AA 64)=>⟨200,AU [2,3,4,5,6,32] [AY 1,AY 2,.c (.sl 3 0 80 80 1),.c (.sl 4 (128*j4) (((((n+1)+(240-(n+1)%128)%128)+8)+8)-128*j4) (((((n+1)+(240-(n+1)%128)%128)+8)+8)-128*j4) 1),AY 5,At (((zz.1:Nat):Int))],[A0 (b),BP (Ac 64),Bb (X3),Bb (H8),BP (Fi (cut b o n)),Bb (zz.2)]⟩) (fun j8=>(j8,Dx (cut b o n) j4 j8)) (80) K_ ?_ ?_
  ·intro j8 hj8
   try dsimp only
   have hX4:(Dx (cut b o n) j4 j8).length=80:=by rw [IX (cut b o n) j4 _];try omega
   rw [Dx.eq_2,Nv]
   try simp only [htx]
   generalize Dx (cut b o n) j4 j8=X4 at*
   refine Ab ?_;refine AB (A8 (b:=80) rfl rfl) rfl ?_;refine Ak ?_;refine BF ?_;refine GF ?_;refine EA ?_;by_cases hc5:j8<16
   ·try simp only [if_pos hc5] at*
    refine FJ rfl (decide_eq_true hc5) ?_;refine CK ?_;refine AX ?_;refine KN ?_;refine AX ?_;refine KN ?_;refine AB (B8 (b:=8) rfl rfl O_) rfl ?_;refine AB (gi rfl underlying23 Bt rfl rfl O_ O_) rfl ?_;refine CQ (Ah (bs:=[4]) (dA (Fi (cut b o n)) ((128*j4)+(8*j8)) (((8*j8)+8)-(8*j8)) ((((((n+1)+(240-(n+1)%128)%128)+8)+8)-128*j4)-(8*j8)) AD AD) AD2 K_ K_ rfl B4) AT rfl ?_;refine AB (AN rfl rfl underlying201 Am O_) rfl ?_;refine D4 ?_;refine Cj ?_;exact ⟨(j8+1,_),K_,rfl⟩
   ·try simp only [if_neg hc5] at*
    refine Cg rfl (decide_eq_false hc5) ?_;refine S_ ?_;refine RZ ?_;refine ft ?_;refine I2 ?_;refine Fm ?_;refine fk ?_;refine I2 ?_;refine DT ?_;refine I6 ?_;refine Ft ?_;refine Ak ?_;refine Ae (GL (nth X4 (j8-15)) (-1)) NJ ?_;refine AX ?_;refine Ae (GL (nth X4 (j8-15)) (-8)) NJ ?_;refine Oh ?_;refine AX ?_;refine AB (CW (j:=7) rfl rfl) rfl ?_;refine Oh ?_;refine BF ?_;refine Ae (GL (nth X4 (j8-2)) (-19)) NJ ?_;refine AX ?_;refine Ae (GL (nth X4 (j8-2)) (-61)) NJ ?_;refine Oh ?_;refine AX ?_;refine AB (CW (j:=6) rfl rfl) rfl ?_;refine Oh ?_;refine Al ?_;refine B5 15 mixed K_ rfl rfl rfl ?_;refine Ca ?_;refine gK ?_;refine I2 ?_;refine Fm ?_;refine RI ?_;refine jJ ?_;refine I2 ?_;refine DT ?_;refine RI ?_;refine Mq ?_;refine I2 ?_;refine Kn ?_;refine Cj ?_;exact ⟨(j8+1,_),K_,rfl⟩
  ·try dsimp only
   have hY6:(Dx (cut b o n) j4 80).length=80:=by rw [IX (cut b o n) j4 _];try omega
   generalize Dx (cut b o n) j4 80=Y6 at*
   refine Ab ?_;refine ju ?_;refine AZ ?_;refine fz ?_;refine QB ?_;refine QR ?_;refine FA ?_;refine AK [2,3,4,5,6,12,88] (fun (zz:Nat×AA 64)=>⟨200,AU [2,3,4,5,6,12,88] [AY 1,AY 2,.c (.sl 3 0 80 80 1),.c (.sl 4 (128*j4) (((((n+1)+(240-(n+1)%128)%128)+8)+8)-128*j4) (((((n+1)+(240-(n+1)%128)%128)+8)+8)-128*j4) 1),AY 5,AY 6,At (((zz.1:Nat):Int))],[A0 (b),BP (Ac 64),Bb (X3),Bb (H8),BP (Fi (cut b o n)),Bb (Y6),Bb (zz.2)]⟩) (fun j19=>(j19,D6 X3 Y6 j19)) (80) K_ ?_ ?_
   ·intro j19 hj19
    try dsimp only
    have hX7:(D6 X3 Y6 j19).length=8:=by rw [JK X3 Y6 hX3 hY6 _];try omega
    rw [D6.eq_2,MH]
    try simp only [htx]
    generalize D6 X3 Y6 j19=X7 at*
    refine Ab ?_;refine AB (A8 (b:=80) rfl rfl) rfl ?_;refine Eg ?_;refine SU ?_;refine AH (AN (j:=4) rfl rfl underlying153 Am O_) rfl ?_;refine DT ?_;refine AH (AN (j:=0) rfl rfl underlying153 Am O_) rfl ?_;refine DT ?_;refine I6 ?_;refine Ft ?_;refine Ak ?_;refine Ae (GL (nth X7 4) (-14)) NJ ?_;refine AX ?_;refine Ae (GL (nth X7 4) (-18)) NJ ?_;refine Oh ?_;refine AX ?_;refine Ae (GL (nth X7 4) (-41)) NJ ?_;refine Oh ?_;refine Al ?_;refine iO ?_;refine AH (AN (j:=7) rfl rfl underlying153 Am O_) rfl ?_;refine Fm ?_;refine RI ?_;refine AH (AN (j:=5) rfl rfl underlying153 Am O_) rfl ?_;refine DT ?_;refine Ul ?_;refine AW ?_;refine AH (fR rfl) rfl ?_;refine AH (AN (j:=6) rfl rfl underlying153 Am O_) rfl ?_;refine DT ?_;refine Ul ?_;refine L0 ?_;refine Mq ?_;refine Ca ?_;refine AH (F1 rfl rfl underlying199 Am O_) rfl ?_;refine DT ?_;refine RI ?_;refine I2 ?_;refine DT ?_;refine Mq ?_;refine Ft ?_;refine Ak ?_;refine Ae (GL (nth X7 0) (-28)) NJ ?_;refine AX ?_;refine Ae (GL (nth X7 0) (-34)) NJ ?_;refine Oh ?_;refine AX ?_;refine Ae (GL (nth X7 0) (-39)) NJ ?_;refine Oh ?_;refine Be ?_;refine Xo ?_;refine A3 ?_;refine AB (Gk rfl rfl) rfl ?_;refine AX ?_;refine W4 ?_;refine A3 ?_;refine AB (Gk rfl rfl) rfl ?_;refine Oh ?_;refine Xo ?_;refine A3 ?_;refine W4 ?_;refine A3 ?_;refine AB (Gk rfl rfl) rfl ?_;refine Oh ?_;refine EW ?_;refine Be ?_;refine EW ?_;refine AX ?_;refine Xo ?_;refine A3 ?_;refine W4 ?_;refine A3 ?_;refine jP ?_;refine Ed ?_;refine EW ?_;refine AX ?_;refine oa ?_;refine A3 ?_;refine qH ?_;refine A3 ?_;refine AB (JX (l:=[_,_,_,_,_,_,_,_]) qC underlying153 Am rfl rfl D_) rfl ?_;refine QR ?_;refine Cj ?_;exact ⟨(j19+1,_),K_,rfl⟩
   ·try dsimp only
    have hY8:(D6 X3 Y6 80).length=8:=by rw [JK X3 Y6 hX3 hY6 _];try omega
    generalize D6 X3 Y6 80=Y8 at*
    refine Ab ?_;refine ju ?_;refine FA ?_;refine AK [2,3,4,5,12,171] (fun (zz:Nat×AA 64)=>⟨200,AU [2,3,4,5,12,171] [AY 1,AY 2,.c (.sl 3 0 80 80 1),.c (.sl 4 (128*j4) (((((n+1)+(240-(n+1)%128)%128)+8)+8)-128*j4) (((((n+1)+(240-(n+1)%128)%128)+8)+8)-128*j4) 1),AY 5,At (((zz.1:Nat):Int))],[A0 (b),BP (Ac 64),Bb (zz.2),Bb (H8),BP (Fi (cut b o n)),Bb (Y8)]⟩) (fun j29=>(j29,Dw X3 Y8 j29)) (8) K_ ?_ ?_
    ·intro j29 hj29
     try dsimp only
     have hX9:(Dw X3 Y8 j29).length=8:=by rw [JV X3 Y8 hX3 _];try omega
     rw [Dw.eq_2,P4]
     try simp only [htx]
     generalize Dw X3 Y8 j29=X9 at*
     refine Ab ?_;refine Rc ?_;refine Eg ?_;refine SG ?_;refine AW ?_;refine QF ?_;refine Fm ?_;refine QF ?_;refine DT ?_;refine Mq ?_;refine QF ?_;refine Kn ?_;refine Cj ?_;exact ⟨(j29+1,_),K_,rfl⟩
    ·try dsimp only
     have hY10:(Dw X3 Y8 8).length=8:=by rw [JV X3 Y8 hX3 _];try omega
     generalize Dw X3 Y8 8=Y10 at*
     refine Ab ?_;refine Ub ?_;refine Ak ?_;refine AB (gi (l:=128) rfl underlying23 Bt rfl rfl O_ O_) rfl ?_;refine BZ ?_;exact ⟨(j4+1,_),K_,rfl⟩
 ·try dsimp only
  have hY11:(Eu (cut b o n) ((n+144)/128)).length=8:=by rw [OO (cut b o n) _];try omega
  generalize Eu (cut b o n) ((n+144)/128)=Y11 at*
  refine JI ?_;refine YS ?_;refine AZ ?_;refine F6 ?_;refine FA ?_;refine AK [2,3,21,183] (fun (zz:Nat×AA 8)=>⟨200,AU [2,3,21,183] [AY 1,AY 2,AY 3,At (((zz.1:Nat):Int))],[A0 (b),BP (Ac 64),Bb (Y11),BP (zz.2)]⟩) (fun j35=>(j35,D0 Y11 j35)) (64) K_ ?_ ?_
  ·intro j35 hj35
   try dsimp only
   have hX12:(D0 Y11 j35).length=64:=by rw [NA Y11 _];try omega
   rw [D0.eq_2,Ma]
   try simp only [htx]
   generalize D0 Y11 j35=X12 at*
   refine Ab ?_;refine HM ?_;refine Ak ?_;refine Be ?_;refine Oo ?_;refine bC ?_;refine Ed ?_;refine Qi ?_;refine KN ?_;refine AB (E4 (a:=56) rfl rfl O_ O_) rfl ?_;refine YR ?_;refine RS ?_;refine Wj ?_;refine Ct ?_;refine Cj ?_;exact ⟨(j35+1,_),K_,rfl⟩
  ·try dsimp only
   have hY13:(D0 Y11 64).length=64:=by rw [NA Y11 _];try omega
   generalize D0 Y11 64=Y13 at*
   refine Ab ?_;refine Lr ?_;refine AZ ?_;refine jm ?_;refine OQ ?_;refine Ar ?_;rw [hP.out]
   exact jK
theorem nQ(b:AA 8)(n cap:Nat)(hb:b.length=n)(hn:n≤2199023255552):Ev prog (.call 129 [.c (.sl 0 0 n cap 1)] [A0 (b)]) (.val (BM (HJ b)) [A0 (b)]):=by
 have h_:=uE b 0 n cap O_ hn
 rw [IE hb] at h_
 exact h_
@[simp] theorem AFC(tx:AA 8):(HJ tx).length=64:=by
 unfold HJ
 (simp [NA, *];done)
attribute [irreducible] HJ
def TR(b:AA 8)(X1:AA 64)(j3:Nat):AA 64:=put X1 (j3/8) ((nth X1 (j3/8)) ||| (((nth b j3).setWidth 64)<<<(BitVec.ofNat 64 (8*(j3%8))).toNat))
def HV(b:AA 8):Nat→AA 64
 |0=>AC 4
 |j3+1=>TR b (HV b j3) j3
@[simp] theorem S0(b:AA 8)(j3:Nat):(HV b j3).length=4:=by
 induction j3 with
 |zero=>(simp [HV, *];done)
 |succ j3 ih=>rw [HV.eq_2,TR];(simp [ih];done)
def JJ(b:AA 8):AA 64:=(HV b 32)
theorem FG(k:r)(h:Hid r→g:=by intro h;refine Ap (Ay IM AM) AT rfl ?_;exact h.out):g:=h ⟨k⟩
theorem VA(k:r)(h:Hid r→g:=by intro h;refine AH (AN rfl rfl underlying128 Am O_) rfl ?_;exact h.out):g:=h ⟨k⟩
theorem IQ(k:r)(h:Hid r→g:=by intro h;refine AB (A9 rfl rfl Ei EI B7 D_) rfl ?_;exact h.out):g:=h ⟨k⟩
theorem Gp(k:r)(h:Hid r→g:=by intro h;refine Bs rfl rfl rfl rfl EI B7 B7 AT ?_;refine AR ?_;refine S_ ?_;exact h.out):g:=h ⟨k⟩
theorem KU(h:g:=by exact kG (Hu rfl rfl Ei EI B7 D_) (by (kernel_rfl))):g:=h
theorem Tw(b:AA 8)(hb:b.length=32):Ev prog (.call 83 [BM (b)] []) (.val (Aw (JJ b)) []):=by
 have hP:=Hid.mk (JJ.eq_1 b)
 refine AI func83 rfl ntmps83 rfl AM ?_;refine BA ?_;refine FG ?_;refine AZ ?_;refine FG ?_;refine B0 ?_;refine AK [1,2,3,4] (fun (zz:Nat×AA 64)=>⟨25,AU [1,2,3,4] [AY 0,AY 1,AY 2,At (((zz.1:Nat):Int))],[BP (b),Bb (AC 4),Bb (zz.2)]⟩) (fun j3=>(j3,HV b j3)) (32) K_ ?_ ?_
 ·intro j3 hj3
  try dsimp only
  have hX1:(HV b j3).length=4:=by rw [S0 b _];try omega
  rw [HV.eq_2,TR]
  generalize HV b j3=X1 at*
  refine A1 ?_;refine Oi ?_;refine Ar ?_;refine B5 15 mixed K_ rfl rfl rfl ?_;refine AW ?_;refine R8 ?_;refine VA ?_;refine Fm ?_;refine OS ?_;refine EK ?_;refine W3 ?_;refine AW ?_;refine Sy ?_;refine Ud ?_;refine kD ?_;refine AH (cQ rfl rfl) rfl ?_;refine Uy ?_;refine VA ?_;refine Kn ?_;refine Cc ?_;exact ⟨(j3+1,_),K_,rfl⟩
 ·try dsimp only
  have hY2:(HV b 32).length=4:=by rw [S0 b _];try omega
  generalize HV b 32=Y2 at*
  refine A1 ?_;refine Pu ?_;refine AZ ?_;refine IQ ?_;refine Gp ?_;rw [hP.out]
  exact KU
@[simp] theorem lr(b:AA 8)(_hb:b.length=32):(JJ b).length=4:=by
 unfold JJ
 (simp [S0, *];done)
attribute [irreducible] JJ
end Go.Proofs.YtmbepikkgkcgkaaGreatDoor
