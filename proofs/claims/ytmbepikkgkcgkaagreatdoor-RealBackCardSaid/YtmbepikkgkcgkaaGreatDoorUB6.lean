/- Merged and shortened by a program: part 6. -/
import Derived.Test.YtmbepikkgkcgkaaGreatDoorUB5
set_option maxRecDepth 100000
set_option maxHeartbeats 8000000
namespace Go.Proofs.YtmbepikkgkcgkaaGreatDoor
open Go.RowKit
variable {g r : Prop}
open Go.Proofs.Tryz
theorem Lb:A5 171:=A8 func171
theorem qL:A5 172:=A8 func172
theorem rY:A5 173:=A8 func173
theorem wL:A5 183:=A8 func183
theorem nx:A5 184:=A8 func184
theorem yG:A5 185:=A8 func185
theorem yE:A5 186:=A8 func186
theorem Ty:A5 187:=A8 func187
theorem fM:A5 188:=A8 func188
theorem du:A5 189:=A8 func189
theorem xM:A5 190:=A8 func190
theorem fq:A5 196:=A8 func196
theorem V5:A5 197:=A8 func197
theorem mixed:prog.follows .mixedOrders=true:=by kernel_rfl
abbrev Al(b:Nat):AV:= .c (.ptr b 0)
theorem QM(k:r)(h:Hid r→g:=by intro h;refine S_ ?_;refine Aq ?_;refine AA (Ac rfl) rfl ?_;refine AN ?_;refine S_ ?_;refine Aq ?_;exact h.out):g:=h ⟨k⟩
theorem dz(k:r)(h:Hid r→g:=by intro h;refine BE (Xk yy AH) AM rfl ?_;exact h.out):g:=h ⟨k⟩
theorem Bc(k:r)(h:Hid r→g:=by intro h;refine AA (Ac rfl) rfl ?_;refine AN ?_;exact h.out):g:=h ⟨k⟩
theorem pW:Ev prog (.call 20 [] []) (.val (Al 0) [.row true (.ac [.sl 1 0 0 0 3,.mp 2]),.row true (.an []),.row true (.mp (Bk []))]):=by
 refine AG func20 rfl ntmps20 rfl AH ?_;refine QM ?_;refine Cs (TP) rfl ?_;refine AA (su rfl) rfl ?_;refine dz ?_;refine Bc ?_;refine Q_ ?_;refine oK 1 0 3 (.an []) rfl rfl rfl rfl ?_;refine S_ ?_;exact gw (EG rfl) K_
theorem XP{m:Nat}{a:List Int}{j:Nat}(hj:j<a.length):hasB m (a.drop j)=((decide (0≤AX a j)&&decide (AX a j<(m:Int)))&&hasB m (a.drop (j+1))):=by
 unfold hasB
 rw [List.drop_eq_getElem_cons hj,List.all_cons]
 congr 2<;>simp [AX,hj]
abbrev Ae(i:Int):AV:= .c (.val (.int .i64 i))
theorem Im(k:r)(h:Hid r→g:=by intro h;refine S_ ?_;refine Aq ?_;refine AA (Ac rfl) rfl ?_;refine AN ?_;refine S_ ?_;refine Aq ?_;refine AA (Af rfl) rfl ?_;exact h.out):g:=h ⟨k⟩
theorem H1(k:r)(h:Hid r→g:=by intro h;refine AA (JL rfl underlying41) rfl ?_;exact h.out):g:=h ⟨k⟩
theorem RO(k:r)(h:Hid r→g:=by intro h;refine AA (Af rfl) rfl ?_;refine AN ?_;refine S_ ?_;exact h.out):g:=h ⟨k⟩
theorem PH(k:r)(h:Hid r→g:=by intro h;refine S_ ?_;refine Aq ?_;refine AA (BA rfl rfl) rfl ?_;refine AN ?_;refine S_ ?_;refine Aq ?_;exact h.out):g:=h ⟨k⟩
theorem rH(k:r)(h:Hid r→g:=by intro h;refine AA (DI rfl rfl underlying41 N8 O_) rfl ?_;exact h.out):g:=h ⟨k⟩
theorem A9(k:r)(h:Hid r→g:=by intro h;refine S_ ?_;refine Aq ?_;refine AA (Af rfl) rfl ?_;exact h.out):g:=h ⟨k⟩
theorem V3(k:r)(h:Hid r→g:=by intro h;refine AA (S8 rfl rfl) rfl ?_;exact h.out):g:=h ⟨k⟩
theorem GN(k:r)(h:Hid r→g:=by intro h;refine AA (Af rfl) rfl ?_;refine N5 Cv rfl ?_;refine N5 Cv rfl ?_;exact h.out):g:=h ⟨k⟩
theorem G5(k:r)(h:Hid r→g:=by intro h;refine N5 Cv rfl ?_;refine N5 Cv rfl ?_;exact h.out):g:=h ⟨k⟩
theorem OT(k:r)(h:Hid r→g:=by intro h;refine N5 Cv rfl ?_;refine AA (JU rfl dj rfl) rfl ?_;exact h.out):g:=h ⟨k⟩
theorem Gc(h:g:=by refine AN ?_;refine S_ ?_;refine Aq ?_;refine AA (Ac rfl) rfl ?_;refine AN ?_;refine S_ ?_;exact gw (EG rfl) (by (kernel_rfl))):g:=h
theorem vQ(k:r)(h:Hid r→g:=by intro h;refine AA (S8 rfl rfl) rfl ?_;refine AA (Af rfl) rfl ?_;refine G9 Cv ?_;refine AA (Af rfl) rfl ?_;refine G9 Cv ?_;exact h.out):g:=h ⟨k⟩
theorem FS(k:r)(h:Hid r→g:=by intro h;refine AA (Af rfl) rfl ?_;refine G9 Cv ?_;exact h.out):g:=h ⟨k⟩
theorem Ea(k:r)(h:Hid r→g:=by intro h;refine AA (HA rfl) rfl ?_;exact h.out):g:=h ⟨k⟩
theorem BR(k:r)(h:Hid r→g:=by intro h;refine G9 Cv ?_;exact h.out):g:=h ⟨k⟩
theorem SQ(k:r)(h:Hid r→g:=by intro h;refine AA (Ai rfl (NQ _ _)) rfl ?_;exact h.out):g:=h ⟨k⟩
theorem Ve(k:r)(h:Hid r→g:=by intro h;refine AA (B9 rfl rfl Yy Dw rfl) rfl ?_;exact h.out):g:=h ⟨k⟩
theorem QP(k:r)(h:Hid r→g:=by intro h;refine AA (ek rfl rfl) rfl ?_;exact h.out):g:=h ⟨k⟩
theorem CQ(k:r)(h:Hid r→g:=by intro h;refine AA (MU rfl dj rfl) rfl ?_;exact h.out):g:=h ⟨k⟩
theorem Cj(k:r)(h:Hid r→g:=by intro h;refine Aq ?_;refine AA (Af rfl) rfl ?_;exact h.out):g:=h ⟨k⟩
theorem D7(k:r)(h:Hid r→g:=by intro h;refine AN ?_;refine S_ ?_;refine Aq ?_;refine AA (EH (b:=1) rfl rfl O_) rfl ?_;refine AA (Af rfl) rfl ?_;refine AN ?_;exact h.out):g:=h ⟨k⟩
theorem SZ(k:r)(h:Hid r→g:=by intro h;refine S_ ?_;refine Aq ?_;refine AA (BA rfl rfl) rfl ?_;exact h.out):g:=h ⟨k⟩
theorem Wp(L:List Nd)(es:List (Value×C6))(N:Nat)(a:List Int)(m cap:Nat)(_hN:L.length=N)(_hNl:N≤2000000)(hm:a.length=m)(hml:m≤1000000):
  Ev prog (.call 41 [.c (.ptr 0 0),.c (.sl 1 0 m cap 1)] [.row false (.ac [.sl 2 0 N N 3,.mp 3]),.row false (.ai a),.row false (.an L),.row false (.mp es)])
   (.val (.c (.val (.bool (hasB N a)))) [.row false (.ac [.sl 2 0 N N 3,.mp 3]),.row false (.ai a),.row false (.an L),.row false (.mp es)]):=by
 refine AG func41 rfl ntmps41 rfl AH ?_;refine Im ?_;refine H1 ?_;refine RO ?_;refine DJ [0,7,8,9] (fun (j:Nat)=>⟨25,AS [0,7,8,9] [Al 0,.c (.sl 1 0 m cap 1),Ae (m:Int),Ae (j:Int)],[.row false (.ac [.sl 2 0 N N 3,.mp 3]),.row false (.ai a),.row false (.an L),.row false (.mp es)]⟩) (fun j=>m-j) (fun j=>j≤m∧hasB N a=hasB N (a.drop j)) 0 K_ ⟨Nat.zero_le _,by rw [List.drop_zero]⟩ ?_
 rintro j ⟨hj,hB⟩
 by_cases hlt:j<m
 ·rw [XP O_] at hB
  refine PH ?_;refine rH ?_;refine AA (JZ rfl rfl Bv Dw) rfl ?_;refine Bc ?_;generalize AX a j=x at*
  by_cases h1:x<0
  ·rw [show hasB N a=false by rw [hB];simp;omega]
   refine A9 ?_;refine V3 ?_;refine GN ?_;refine G5 ?_;refine G5 ?_;refine OT ?_;exact Gc
  ·by_cases h2:(N:Int)≤x
   ·rw [show hasB N a=false by rw [hB];simp;omega]
    refine A9 ?_;refine vQ ?_;refine FS ?_;refine Ea ?_;refine BR ?_;refine SQ ?_;refine BR ?_;refine Ve ?_;refine BR ?_;refine AA (JL rfl underlying53) rfl ?_;refine BR ?_;refine QP ?_;refine CQ ?_;exact Gc
   ·refine S_ ?_
    refine Cj ?_;refine vQ ?_;refine FS ?_;refine Ea ?_;refine BR ?_;refine SQ ?_;refine BR ?_;refine Ve ?_;refine BR ?_;refine AA (JL rfl underlying53) rfl ?_;refine BR ?_;refine QP ?_;refine CQ ?_;refine D7 ?_;refine ⟨j+1,K_,by show m-(j+1)<m-j;omega,by omega,?_⟩
    rw [hB,show (decide (0≤x)&&decide (x<(N:Int)))=true by simp;omega,Bool.true_and]
 ·obtain rfl:j=m:=by omega
  rw [show hasB N a=true by rw [hB,←hm,List.drop_length];rfl]
  refine SZ ?_;exact Gc
theorem UO(k:r)(h:Hid r→g:=by intro h;refine AG func40 rfl ntmps40 rfl AH ?_;exact h.out):g:=h ⟨k⟩
theorem JQ(k:r)(h:Hid r→g:=by intro h;refine S_ ?_;refine Aq ?_;refine AA (Ac rfl) rfl ?_;refine AA (Ac rfl) rfl ?_;refine AN ?_;refine S_ ?_;refine Aq ?_;refine AA (Af rfl) rfl ?_;exact h.out):g:=h ⟨k⟩
theorem oF(k:r)(h:Hid r→g:=by intro h;refine AN ?_;refine S_ ?_;refine Aq ?_;refine AA (Cm (b:=1) rfl rfl) rfl ?_;exact h.out):g:=h ⟨k⟩
theorem Ad(k:r)(h:Hid r→g:=by intro h;refine AA (Ac rfl) rfl ?_;refine AN ?_;refine S_ ?_;refine Aq ?_;exact h.out):g:=h ⟨k⟩
theorem Ct(h:g:=by refine AA (Ac rfl) rfl ?_;refine AA (Ac rfl) rfl ?_;refine AN ?_;refine S_ ?_;exact sU (EG rfl) (EG rfl) (by (kernel_rfl))):g:=h
theorem H4(k:r)(h:Hid r→g:=by intro h;refine AN ?_;refine S_ ?_;refine Aq ?_;refine AA (Cm (b:=1) rfl rfl) rfl ?_;refine AA (Ac rfl) rfl ?_;refine AN ?_;refine S_ ?_;refine Aq ?_;refine AA (Cm (b:=2) rfl rfl) rfl ?_;exact h.out):g:=h ⟨k⟩
theorem J3(k:r)(h:Hid r→g:=by intro h;refine AA (Cm (b:=4) rfl rfl) rfl ?_;refine AA (Ac rfl) rfl ?_;refine AN ?_;refine S_ ?_;refine Aq ?_;exact h.out):g:=h ⟨k⟩
theorem Iu(k:r)(h:Hid r→g:=by intro h;refine AA (Cm (b:=5) rfl rfl) rfl ?_;exact h.out):g:=h ⟨k⟩
theorem Qd(k:r)(h:Hid r→g:=by intro h;refine AA (Cm (b:=6) rfl rfl) rfl ?_;exact h.out):g:=h ⟨k⟩
theorem Vn(k:r)(h:Hid r→g:=by intro h;refine AA (Cm (b:=8) rfl rfl) rfl ?_;exact h.out):g:=h ⟨k⟩
theorem VE(k:r)(h:Hid r→g:=by intro h;refine AA (Cm (b:=7) rfl rfl) rfl ?_;exact h.out):g:=h ⟨k⟩
theorem AQ(k:r)(h:Hid r→g:=by intro h;refine AN ?_;refine S_ ?_;refine Aq ?_;exact h.out):g:=h ⟨k⟩
theorem Lw(k:r)(h:Hid r→g:=by intro h;refine AA (em rfl rfl) rfl ?_;refine AA (Ac rfl) rfl ?_;refine AN ?_;refine S_ ?_;refine Aq ?_;exact h.out):g:=h ⟨k⟩
theorem VC(k:Int):Ev prog (.call 40 [Ae k] []) (.val (.tup [Ae ((CK k:Nat):Int),Ae ((Eb k:Nat):Int)]) []):=by
 unfold CK Eb
 by_cases h1:k=1
 ·simp only [h1,if_true,if_false,Int.reduceEq,or_self,or_false]
  refine UO ?_;refine JQ ?_;refine oF ?_;refine Ad ?_;exact Ct
 by_cases h2:k=2
 ·simp only [h2,or_true,if_true,if_false,Int.reduceEq,or_self]
  refine UO ?_;refine JQ ?_;refine H4 ?_;refine Ad ?_;exact Ct
 by_cases h4:k=4
 ·simp only [h4,if_true,if_false,Int.reduceEq,or_self,or_false]
  refine UO ?_;refine JQ ?_;refine H4 ?_;refine Ad ?_;refine J3 ?_;exact Ct
 by_cases h5:k=5
 ·simp only [h5,or_true,if_true,if_false,Int.reduceEq,or_self,or_false]
  refine UO ?_;refine JQ ?_;refine H4 ?_;refine Ad ?_;refine J3 ?_;refine Iu ?_;refine Ad ?_;exact Ct
 by_cases h6:k=6
 ·simp only [h6,or_true,if_true,if_false,Int.reduceEq,or_self,or_false]
  refine UO ?_;refine JQ ?_;refine H4 ?_;refine Ad ?_;refine J3 ?_;refine Iu ?_;refine Ad ?_;refine Qd ?_;refine Ad ?_;exact Ct
 by_cases h8:k=8
 ·simp only [h8,or_true,if_true,if_false,Int.reduceEq,or_self]
  refine UO ?_;refine JQ ?_;refine H4 ?_;refine Ad ?_;refine J3 ?_;refine Iu ?_;refine Ad ?_;refine Qd ?_;refine Ad ?_;refine Vn ?_;refine Ad ?_;exact Ct
 by_cases h7:k=7
 ·simp only [h7,if_true,if_false,Int.reduceEq,or_self]
  refine UO ?_;refine JQ ?_;refine H4 ?_;refine Ad ?_;refine J3 ?_;refine Iu ?_;refine Ad ?_;refine Qd ?_;refine Ad ?_;refine Vn ?_;refine Ad ?_;refine VE ?_;refine Ad ?_;exact Ct
 simp only [h1,h2,h4,h5,h6,h8,h7,or_self,if_false]
 refine UO ?_;refine JQ ?_;refine AQ ?_;refine Lw ?_;refine Lw ?_;refine Lw ?_;refine Lw ?_;refine Lw ?_;refine Lw ?_;refine Lw ?_;exact Ct
theorem GD{P:Program}{k:Nat}{c:Code}{s:St}{Φ:Ex→St→Prop}(keep:List Nat){σ:Type}(I:σ→St)(y:σ)(h1:WC P k c s (Vg k keep I y))(h2:Φ .normal (I y)):WC P k c s Φ:=by
 obtain ⟨e,r,g1,g2⟩:=h1.h
 cases e with
 |normal=>obtain ⟨x,g3,rfl⟩:=g2;exact ⟨⟨_,_,Ev.tidy keep g1 g3,h2⟩⟩
 |exit id=>exact g2.elim
 |ret=>exact g2.elim
theorem Fb{A B:Prop}(a:A)(b:B)(k:r)(h:A→B→Hid r→g:=by intro a b h;refine Bh (AY a b rfl rfl rfl BT) AM rfl ?_;exact h.out):g:=h a b ⟨k⟩
theorem iA(k:r)(h:Hid r→g:=by intro h;refine AG func21 rfl ntmps21 rfl AH ?_;exact h.out):g:=h ⟨k⟩
theorem AK(k:r)(h:Hid r→g:=by intro h;refine S_ ?_;refine Aq ?_;exact h.out):g:=h ⟨k⟩
theorem JT(k:r)(h:Hid r→g:=by intro h;refine AA (Ac rfl) rfl ?_;refine AA (Ac rfl) rfl ?_;refine AN ?_;refine S_ ?_;exact h.out):g:=h ⟨k⟩
theorem Ns(k:r)(h:Hid r→g:=by intro h;refine Aq ?_;refine AA (Af rfl) rfl ?_;refine AA (em rfl rfl) rfl ?_;exact h.out):g:=h ⟨k⟩
theorem Dl(k:r)(h:Hid r→g:=by intro h;refine AA (Af rfl) rfl ?_;refine N5 Cv rfl ?_;refine N5 Cv rfl ?_;refine AA (JU rfl dj rfl) rfl ?_;exact h.out):g:=h ⟨k⟩
theorem BJ(k:r)(h:Hid r→g:=by intro h;refine AA (Af rfl) rfl ?_;refine G9 Cv ?_;refine AA (Af rfl) rfl ?_;refine G9 Cv ?_;exact h.out):g:=h ⟨k⟩
theorem Hn(k:r)(h:Hid r→g:=by intro h;refine AA (em rfl rfl) rfl ?_;exact h.out):g:=h ⟨k⟩
theorem Kw(k:r)(h:Hid r→g:=by intro h;refine AA (MU rfl dj rfl) rfl ?_;refine AA (Af rfl) rfl ?_;refine G9 Cv ?_;refine AA (Af rfl) rfl ?_;refine G9 Cv ?_;exact h.out):g:=h ⟨k⟩
theorem KE(k:r)(h:Hid r→g:=by intro h;refine AA (MU rfl dj rfl) rfl ?_;refine AA (Ac rfl) rfl ?_;refine AN ?_;exact h.out):g:=h ⟨k⟩
theorem GQ(k:r)(h:Hid r→g:=by intro h;refine AA (E9 rfl) rfl ?_;refine AA (Bs rfl rfl) rfl ?_;refine AA (Bs rfl rfl) rfl ?_;refine AA (Ac rfl) rfl ?_;refine AA (Ac rfl) rfl ?_;refine AN ?_;refine S_ ?_;refine Aq ?_;refine AA (Af rfl) rfl ?_;exact h.out):g:=h ⟨k⟩
theorem Dh(k:r)(h:Hid r→g:=by intro h;refine AA (S8 rfl rfl) rfl ?_;refine AA (Af rfl) rfl ?_;refine G9 Cv ?_;refine AA (Af rfl) rfl ?_;refine G9 Cv ?_;refine AA (yd rfl rfl) rfl ?_;exact h.out):g:=h ⟨k⟩
theorem Ay(k:r)(h:Hid r→g:=by intro h;refine AA (Ac rfl) rfl ?_;refine AN ?_;refine S_ ?_;exact h.out):g:=h ⟨k⟩
theorem E4(k:r)(h:Hid r→g:=by intro h;refine G9 Cv ?_;refine AA (Af rfl) rfl ?_;refine G9 Cv ?_;refine AA (Af rfl) rfl ?_;refine G9 Cv ?_;exact h.out):g:=h ⟨k⟩
theorem FO(k:r)(h:Hid r→g:=by intro h;refine AA (SU rfl) rfl ?_;exact h.out):g:=h ⟨k⟩
theorem E5(k:r)(h:Hid r→g:=by intro h;refine G9 Cv ?_;refine AA (JU rfl dj rfl) rfl ?_;exact h.out):g:=h ⟨k⟩
theorem GO(k:r)(h:Hid r→g:=by intro h;refine G9 Cv ?_;refine AA (Af rfl) rfl ?_;refine N5 Cv rfl ?_;refine N5 Cv rfl ?_;refine G9 Cv ?_;refine AA (MU rfl dj rfl) rfl ?_;exact h.out):g:=h ⟨k⟩
theorem AR(k:r)(h:Hid r→g:=by intro h;refine AA (Af rfl) rfl ?_;exact h.out):g:=h ⟨k⟩
theorem DF(k:r)(h:Hid r→g:=by intro h;refine AA (BA rfl rfl) rfl ?_;exact h.out):g:=h ⟨k⟩
theorem QU(k:r)(h:Hid r→g:=by intro h;refine AA (Fd rfl rfl) rfl ?_;exact h.out):g:=h ⟨k⟩
theorem BH(k:r)(h:Hid r→g:=by intro h;refine AA (Ac rfl) rfl ?_;refine AN ?_;refine S_ ?_;refine Aq ?_;refine AA (Af rfl) rfl ?_;refine AA (Af rfl) rfl ?_;exact h.out):g:=h ⟨k⟩
theorem Ar(k:r)(h:Hid r→g:=by intro h;refine S_ ?_;refine Aq ?_;refine AA (Af rfl) rfl ?_;refine AA (Af rfl) rfl ?_;exact h.out):g:=h ⟨k⟩
theorem Ab(k:r)(h:Hid r→g:=by intro h;refine AA (Ac rfl) rfl ?_;refine AN ?_;refine S_ ?_;refine Aq ?_;refine AA (Af rfl) rfl ?_;exact h.out):g:=h ⟨k⟩
theorem Lo(k:r)(h:Hid r→g:=by intro h;refine AA (B9 rfl rfl Yy Dw rfl) rfl ?_;refine AA (JL rfl underlying53) rfl ?_;exact h.out):g:=h ⟨k⟩
theorem Qe(k:r)(h:Hid r→g:=by intro h;refine Ez 10 mixed K_ rfl rfl rfl ?_;exact h.out):g:=h ⟨k⟩
theorem Is(k:r)(h:Hid r→g:=by intro h;refine AE (Af rfl) rfl ?_;refine AE (HA rfl) rfl ?_;exact h.out):g:=h ⟨k⟩
theorem Bt(k:r)(h:Hid r→g:=by intro h;refine AE (Af rfl) rfl ?_;refine AE (Af rfl) rfl ?_;exact h.out):g:=h ⟨k⟩
theorem QT(k:r)(h:Hid r→g:=by intro h;refine AE (B9 rfl rfl Yy Dw rfl) rfl ?_;exact h.out):g:=h ⟨k⟩
theorem YD(k:r)(h:Hid r→g:=by intro h;refine AE (JL rfl underlying53) rfl ?_;exact h.out):g:=h ⟨k⟩
theorem A6(k:r)(h:Hid r→g:=by intro h;refine AN ?_;refine S_ ?_;exact h.out):g:=h ⟨k⟩
theorem Gj(k:r)(h:Hid r→g:=by intro h;refine Bf (Af rfl) rfl ?_;refine Bf (Af rfl) rfl ?_;exact h.out):g:=h ⟨k⟩
theorem pw(k:r)(h:Hid r→g:=by intro h;refine ry [] K_ (B9 rfl rfl Yy Dw rfl) rfl ?_;exact h.out):g:=h ⟨k⟩
theorem JP(k:r)(h:Hid r→g:=by intro h;refine Bf (Af rfl) rfl ?_;exact h.out):g:=h ⟨k⟩
theorem jJ(k:r)(h:Hid r→g:=by intro h;refine AA (Fg (b:=1) rfl rfl O_ O_) rfl ?_;exact h.out):g:=h ⟨k⟩
theorem QW(h:g:=by exact sU (EG rfl) (EG rfl) (by (kernel_rfl))):g:=h
theorem wW(L:List Nd)(N:Nat)(k n:Int)(a:List Int)(m cap:Nat)(hA:C2 L)(hN:L.length=N)(hNl:N≤1000000)(hm:a.length=m)(hml:m≤1000)(hr:∀x∈k::n::a,-9223372036854775808≤x∧x≤9223372036854775807)(he:Bl N k n a=0)(hf:F2 L ⟨k,n,a⟩=none):Ev prog (.call 21 [Al 0,Ae k,Ae n,.c (.sl 1 0 m cap 1)] [.row true (.ac [.sl 2 0 N N 3,.mp 3]),.row false (.ai a),.row true (.an L),.row true (.mp (Bk L))]) (.val (.tup [Ae ((N:Nat):Int),Ae ((0:Nat):Int)]) [.row true (.ac [.sl 4 0 (N+1) (N+1) 3,.mp 3]),.row false (.ai a),.dead,.row true (.mp (Bk (L++[⟨k,n,a⟩]))),.row true (.an (L++[⟨k,n,a⟩]))]):=by
 have hok:=In he
 have c1:=hok.kind
 dsimp only at c1
 have c2:¬(n<0∨(0<n∧DY k=false)):=by
  have h3:=hok.num
  dsimp only at h3
  rintro (h | ⟨h,h2⟩)
  ·omega
  ·rw [h3.2 h] at h2;cases h2
 have c2n:¬n<0:=fun h=>c2 (.inl h)
 have c5:=hok.len
 dsimp only at c5
 have ml:=ES k
 have c7:hasB N a=true:=by
  cases hq:hasB N a with
  |true=>rfl
  |false=>revert he;unfold Bl;rw [if_neg O_,if_neg c2,if_neg O_,if_pos hq];intro h;cases h
 refine iA ?_;refine AK ?_;refine JT ?_;refine GD [0,1,2,3,10] (fun (q:Bool)=>⟨118,AS [0,1,2,3,10] [Al 0,Ae k,Ae n,.c (.sl 1 0 m cap 1),.c (.val (.bool q))],[.row true (.ac [.sl 2 0 N N 3,.mp 3]),.row false (.ai a),.row true (.an L),.row true (.mp (Bk L))]⟩) (DY k) ?_ ?_
 ·by_cases h1:k=1
  ·refine S_ ?_
   refine Ns ?_;refine Dl ?_;refine Dl ?_;refine Bc ?_;exact ⟨true,K_,by simp [DY,h1]⟩
  ·by_cases h2:k=2
   ·refine S_ ?_
    refine Ns ?_;refine BJ ?_;refine Hn ?_;refine CQ ?_;refine Dl ?_;refine Bc ?_;exact ⟨true,K_,by simp [DY,h2]⟩
   ·refine S_ ?_
    refine Ns ?_;refine BJ ?_;refine Hn ?_;refine Kw ?_;refine Hn ?_;refine KE ?_;exact ⟨decide (k=4),K_,by simp [DY,h1,h2]⟩
 refine A9 ?_;refine Fb (VC k) iK ?_;refine GQ ?_;refine Dh ?_;refine CQ ?_;refine Ay ?_;refine GD [0,1,2,3,11,12,38] (fun (q:Bool)=>⟨118,AS [0,1,2,3,11,12,38] [Al 0,Ae k,Ae n,.c (.sl 1 0 m cap 1),Ae ((CK k:Nat):Int),Ae ((Eb k:Nat):Int),.c (.val (.bool q))],[.row true (.ac [.sl 2 0 N N 3,.mp 3]),.row false (.ai a),.row true (.an L),.row true (.mp (Bk L))]⟩) false ?_ ?_
 ·by_cases c3:0<n
  ·have c4:DY k=true:=by cases hq:DY k with
    |true=>rfl
    |false=>exact absurd (Or.inr ⟨c3,hq⟩) c2
   refine A9 ?_;refine Dh ?_;refine E4 ?_;refine FO ?_;refine E5 ?_;refine KE ?_;exact ⟨!(DY k),K_,by rw [c4];rfl⟩
  ·refine S_ ?_
   refine Cj ?_;refine Dh ?_;refine GO ?_;refine KE ?_;exact ⟨false,K_,rfl⟩
 refine A9 ?_;refine H1 ?_;refine AR ?_;refine DF ?_;refine BJ ?_;refine H1 ?_;refine BR ?_;refine FS ?_;refine QU ?_;refine CQ ?_;refine BH ?_;refine Fb (Wp L (Bk L) N a m cap hN O_ hm O_) dh ?_;refine FO ?_;refine Bc ?_;refine Q_ ?_;refine Bu rfl (by rw [c7];rfl) ?_
 refine Ar ?_;refine AR ?_;refine Fb (fP k n a m cap hm hml hr) qD ?_;refine Ab ?_;refine Ea ?_;refine AA (Ai rfl (SL _ _)) rfl ?_;refine AA (B9 rfl rfl Vj Dw rfl) rfl ?_;refine AR ?_;refine Cs (gz (i:=Tryz.t3) (c:= .val (.int .i64 0)) underlying73 underlying9 K_ K_ (fun _=>rfl) rfl rfl rfl hA.keyed trivial (PZ hf)) rfl ?_
 refine GQ ?_;refine Ab ?_;refine Ea ?_;refine SQ ?_;refine Lo ?_;refine AA (Mn (b:=1048576) rfl rfl) rfl ?_;refine Ay ?_;refine Qe ?_;refine Is ?_;refine AE (Ai rfl (SL _ _)) rfl ?_;refine AE (B9 rfl rfl Vj Dw rfl) rfl ?_;refine Bt ?_;refine AE (HA rfl) rfl ?_;refine AE (Ai rfl (NQ _ _)) rfl ?_;refine QT ?_;refine YD ?_;refine Bn ?_;refine ij (Rw (c:= .val (.int .i64 (N:Int))) underlying73 underlying9 rfl rfl rfl rfl hA.keyed trivial (PZ hf) AM) ?_;refine A6 ?_;refine Gm [(10,[]),(11,[2]),(14,[0])] [0,2] 2 mixed K_ K_ ?_;refine Gj ?_;refine Bf (HA rfl) rfl ?_;refine Bf (Ai rfl (NQ _ _)) rfl ?_;refine pw ?_;refine Gj ?_;refine JP ?_;refine lT (AAl (AY (bH a m cap hm hml) vR rfl rfl rfl rfl)) (fun _=>rfl) rfl ?_
 refine Bf (Ux rfl rfl rfl) rfl ?_;refine Dc (Ev.mem (dx rfl rfl)) rfl W4 ?_;refine Dc (ZS rfl rfl rfl rfl underlying53 underlying53 rW hN O_ AH AM) rfl W4 ?_;refine Bf (HA rfl) rfl ?_;refine Bf (Ai rfl (NQ _ _)) rfl ?_;refine WA (YY (w:= .ac [.sl 5 0 (N+1) (N+1) 3,.mp 3]) rfl rfl rfl rfl qF (by show 0<2;decide) rfl AM) rfl W4 ?_
 refine iI ?_;refine A9 ?_;refine Ea ?_;refine SQ ?_;refine Lo ?_;refine jJ ?_;refine JT ?_;rw [YJ,hN]
 exact QW
def swp(l:List Int)(i j:Nat):List Int:=(l.set i (AX l j)).set j (AX l i)
def Zj(l:List Int):Nat→List Int
 |0=>l
 |j+1=>swp (Zj l j) j (l.length-1-j)
@[simp] theorem wQ(l:List Int)(i j:Nat):(swp l i j).length=l.length:=by simp [swp]
@[simp] theorem Oy(l:List Int):∀j,(Zj l j).length=l.length
 |0=>rfl
 |j+1=>by simp [Zj,Oy l j]
theorem mi(l:List Int)(j:Nat)(hj:2*j≤l.length)(i:Nat)(hi:i<l.length):AX (Zj l j) i=if i<j∨l.length-1-i<j then AX l (l.length-1-i) else AX l i:=by
 induction j generalizing i with
 |zero=>rw [if_neg O_];rfl
 |succ j ih=>
  have h1:=ih O_
  simp only [Zj,swp]
  simp only [AX,List.getD_eq_getElem?_getD,List.getElem?_set,List.length_set,Oy] at h1 ⊢
  by_cases e1:l.length-1-j=i
  ·subst e1
   rw [if_pos rfl,if_pos O_,Option.getD_some,h1 j O_,if_neg O_,if_pos O_]
   congr 2
   omega
  ·rw [if_neg e1]
   by_cases e2:j=i
   ·subst e2
    rw [if_pos rfl,if_pos O_,Option.getD_some,h1 _ O_,if_neg O_,if_pos O_]
   ·rw [if_neg e2,h1 i hi]
    by_cases e3:i<j∨l.length-1-i<j
    ·rw [if_pos e3,if_pos O_]
    ·rw [if_neg e3,if_neg O_]
theorem nH(l:List Int)(j:Nat)(hj:j=l.length/2):Zj l j=l.reverse:=by
 apply List.ext_getElem (by simp)
 intro i h1 h2
 simp only [Oy] at h1
 have h3:=mi l j O_ i h1
 simp only [AX,List.getD_eq_getElem?_getD] at h3
 rw [List.getElem?_eq_getElem (by simpa using h1),Option.getD_some] at h3
 rw [h3,List.getElem_reverse]
 by_cases e:i<j∨l.length-1-i<j
 ·rw [if_pos e,List.getElem?_eq_getElem O_,Option.getD_some]
 ·rw [if_neg e,List.getElem?_eq_getElem O_,Option.getD_some]
  congr 1
  omega
section
variable {P:Program} {S:List Nat} {i:Nat} {M0:Ak} {ops:Array Oper} {K:St→Prop} {l:List Oper} {N:Nat} {T:Nat→AV} {M M':Ak} {ty pos af}
theorem bj {t : TypeId} {a v : Operand} {b o : Nat} {x : List Int} {w : Int} (hb : S.contains b = true) (ha : AC T a = .c (.ptr b o)) (hv : AC T v = .c (.val (.int .i64 w))) (hm : M[b]? = some (.row true (.ai x))) (hs : De P t = some 1) (ho : o < x.length) (hM : M.set b (.row true (.ai (XF x o w))) = M')
    (hk : XO P S M0 ops (i + 1) l ⟨N, T, M'⟩ K) : XO P S M0 ops i (⟨none, .store t a v, ty, pos, af, none⟩ :: l) ⟨N, T, M⟩ K := iB hb ha hv hm rfl hs ho (wI x o w) hM hk
end
theorem Nv(k:r)(h:Hid r→g:=by intro h;refine AA (vq rfl rfl O_) rfl ?_;exact h.out):g:=h ⟨k⟩
theorem SN(k:r)(h:Hid r→g:=by intro h;refine AA (BA rfl rfl) rfl ?_;refine AN ?_;refine S_ ?_;exact h.out):g:=h ⟨k⟩
theorem JO(k:r)(h:Hid r→g:=by intro h;refine E3 (Af rfl) rfl ?_;exact h.out):g:=h ⟨k⟩
theorem gb(k:r)(h:Hid r→g:=by intro h;refine E3 (DI rfl rfl underlying41 N8 O_) rfl ?_;exact h.out):g:=h ⟨k⟩
theorem di(k:r)(h:Hid r→g:=by intro h;refine AA (EH (b:=1) rfl rfl O_) rfl ?_;exact h.out):g:=h ⟨k⟩
theorem rI(k:r)(h:Hid r→g:=by intro h;refine AA (Ac rfl) rfl ?_;refine AA (Ac rfl) rfl ?_;refine AN ?_;exact h.out):g:=h ⟨k⟩
theorem yB(l:List Int)(n cap:Nat)(hl:l.length=n)(hn:n≤2000000):Ev prog (.call 68 [.c (.sl 0 0 n cap 1)] [.row true (.ai l)]) (.val (.tup []) [.row true (.ai l.reverse)]):=by
 refine AG func68 rfl ntmps68 rfl AH ?_;refine A9 ?_;refine H1 ?_;refine Nv ?_;refine JT ?_;refine DJ [0,2,3] (fun (zz:Nat×Int×List Int)=>⟨28,AS [0,2,3] [.c (.sl 0 0 n cap 1),Ae (zz.1:Int),Ae zz.2.1],[.row true (.ai zz.2.2)]⟩) (fun zz=>n-zz.1) (fun zz=>(zz.2.1=(n:Int)-1-(zz.1:Int)∧2*zz.1≤n)∧zz.2.2=Zj l zz.1) (0,(n:Int)-1,l) K_ ⟨⟨by simp,by simp⟩,rfl⟩ ?_
 rintro ⟨j,x,q⟩ ⟨⟨hx,hj⟩,hq⟩
 dsimp only at hx hj hq ⊢
 by_cases h1:(j:Int)<x
 ·obtain ⟨k,rfl⟩:∃k:Nat,x=(k:Int):=⟨x.toNat,by omega⟩
  have hqn:q.length=n:=by rw [hq];simp [hl]
  have hs:Zj l (j+1)=swp q j k:=by rw [hq];simp only [Zj];congr 1;omega
  clear hq
  refine Ar ?_;refine SN ?_;refine Pm [0] mixed K_ ?_;refine JO ?_;refine JO ?_;refine JO ?_;refine JO ?_;refine JO ?_;refine JO ?_;refine gb ?_;first | first
   |refine E3 (Mc rfl rfl Bv Dw) rfl ?_
   |refine E3 (JZ rfl rfl Bv Dw) rfl ?_
   |refine E3 (C0 rfl Bv Dw) rfl ?_
   |refine E3 (cP rfl rfl rfl Bv Dw) rfl ?_
   |refine E3 (B9 rfl rfl Bv Dw rfl) rfl ?_ | first
   |refine Fq K_ (Mc rfl rfl Bv Dw) rfl ?_
   |refine Fq K_ (JZ rfl rfl Bv Dw) rfl ?_
   |refine Fq K_ (C0 rfl Bv Dw) rfl ?_
   |refine Fq K_ (cP rfl rfl rfl Bv Dw) rfl ?_
   |refine Fq K_ (B9 rfl rfl Bv Dw rfl) rfl ?_
  refine JO ?_;refine JO ?_;refine gb ?_;first | first
   |refine E3 (Mc rfl rfl Bv Dw) rfl ?_
   |refine E3 (JZ rfl rfl Bv Dw) rfl ?_
   |refine E3 (C0 rfl Bv Dw) rfl ?_
   |refine E3 (cP rfl rfl rfl Bv Dw) rfl ?_
   |refine E3 (B9 rfl rfl Bv Dw rfl) rfl ?_ | first
   |refine Fq K_ (Mc rfl rfl Bv Dw) rfl ?_
   |refine Fq K_ (JZ rfl rfl Bv Dw) rfl ?_
   |refine Fq K_ (C0 rfl Bv Dw) rfl ?_
   |refine Fq K_ (cP rfl rfl rfl Bv Dw) rfl ?_
   |refine Fq K_ (B9 rfl rfl Bv Dw rfl) rfl ?_
  refine gb ?_;refine bj rfl rfl rfl rfl N8 Dw AM ?_;refine gb ?_;refine bj rfl rfl rfl rfl N8 Dw AM ?_;refine ib ?_;refine A9 ?_;refine di ?_;refine AR ?_;refine jJ ?_;refine rI ?_;refine ⟨(j+1,((k-1:Nat):Int),swp q j k),K_,?_,⟨?_,?_⟩,hs.symm⟩
  ·dsimp only;omega
  ·dsimp only;omega
  ·dsimp only;omega
 ·rw [←nH l j O_,←hq]
  refine Ar ?_;refine V3 ?_;refine A6 ?_;exact wl (by (exact .inl rfl)) (by (kernel_rfl))
def uI(x:Nd):AV:= .agg (.ac [.val (.int .i64 x.k),.val (.int .i64 x.n),.is x.a])
theorem uw(n:Nat):JG prog 4 n=some (.ac (List.replicate n (.val (.bool false)))):=by kernel_rfl
def mark(c:List Bool)(a:List Int):List Bool:=a.foldl (fun c x=>c.set x.toNat true) c
def W7(L:List Nd):Nat→List Bool→List Int
 |0,_=>[]
 |k+1,c=>if JN c k then (k:Int)::W7 L k (mark c (Aa L k).a) else W7 L k c
def BF(L:List Nd)(i:Nat):List Int:=(W7 L (i+1) ((List.replicate (i+1) false).set i true)).reverse
theorem Of(a:List Int):∀c:List Bool,(mark c a).length=c.length:=by
 induction a with
 |nil=>intro c;rfl
 |cons x a ih=>intro c;exact (ih _).trans (by simp)
theorem lE(c:List Bool)(a:List Int)(j:Nat)(hj:j<a.length):mark c (a.take (j+1))=(mark c (a.take j)).set (AX a j).toNat true:=by
 rw [List.take_succ_eq_append_getElem hj]
 simp only [mark,List.foldl_append,List.foldl_cons,List.foldl_nil,AX,List.getD_eq_getElem?_getD,List.getElem?_eq_getElem hj,Option.getD_some]
theorem Q9(L:List Nd):∀k c,(W7 L k c).length≤k
 |0,_=>Nat.le_refl _
 |k+1,c=>by
  unfold W7
  split
  ·exact Nat.succ_le_succ (Q9 L k _)
  ·exact Nat.le_succ_of_le (Q9 L k _)
theorem PG(L:List Nd)(i:Nat):(BF L i).length≤i+1:=by
 unfold BF
 rw [List.length_reverse]
 exact Q9 L _ _
theorem AZ(k:r)(h:Hid r→g:=by intro h;refine AN ?_;refine S_ ?_;refine Aq ?_;refine AA (Af rfl) rfl ?_;exact h.out):g:=h ⟨k⟩
theorem cg(k:r)(h:Hid r→g:=by intro h;refine AA (TU rfl rfl underlying53 Ly O_) rfl ?_;exact h.out):g:=h ⟨k⟩
theorem ji(L:List Nd)(es:List (Value×C6))(N i:Nat)(hN:L.length=N)(hi:i<N):Ev prog (.call 46 [Al 0,Ae (i:Int)] [.row false (.ac [.sl 1 0 N N 3,.mp 2]),.row false (.an L),.row false (.mp es)]) (.val (uI (Aa L i)) [.row false (.ac [.sl 1 0 N N 3,.mp 2]),.row false (.an L),.row false (.mp es)]):=by
 unfold uI
 refine AG func46 rfl ntmps46 rfl AH ?_;refine AK ?_;refine BE (BO oo AH) AM rfl ?_;refine AZ ?_;refine Ea ?_;refine SQ ?_;refine Ve ?_;refine AR ?_;refine cg ?_;refine Cs (R5 (j:=i) rfl O_ rfl N9 Ly O_) rfl ?_;refine Bm rfl rfl rfl rfl Ly C1 C1 AM ?_;refine A6 ?_;exact gw (JR rfl rfl N9 Ly C1 D_) (by (kernel_rfl))
theorem G4(k:r)(h:Hid r→g:=by intro h;refine AA (Ac rfl) rfl ?_;exact h.out):g:=h ⟨k⟩
theorem Nu(k:r)(h:Hid r→g:=by intro h;refine BE (Wj (l:=[_]) underlying41 QK rfl rfl D_ D_ AH) AM rfl ?_;exact h.out):g:=h ⟨k⟩
theorem Qc(k:r)(h:Hid r→g:=by intro h;refine AA (DI rfl rfl underlying116 pf O_) rfl ?_;exact h.out):g:=h ⟨k⟩
theorem Er(k:r)(h:Hid r→g:=by intro h;refine AA (Ac rfl) rfl ?_;refine AA (Ac rfl) rfl ?_;refine AN ?_;refine Q_ ?_;exact h.out):g:=h ⟨k⟩
theorem Ep(h:g:=by refine S_ ?_;exact sU (EG rfl) (EG rfl) (by (kernel_rfl))):g:=h
theorem R1(k:r)(h:Hid r→g:=by intro h;refine AA (Mn (b:=0) rfl rfl) rfl ?_;exact h.out):g:=h ⟨k⟩
theorem Df(k:r)(h:Hid r→g:=by intro h;refine AN ?_;refine S_ ?_;refine Aq ?_;refine AA (Af rfl) rfl ?_;refine AA (Af rfl) rfl ?_;exact h.out):g:=h ⟨k⟩
theorem Rr(k:r)(h:Hid r→g:=by intro h;refine AA (SU rfl) rfl ?_;refine AN ?_;refine Q_ ?_;exact h.out):g:=h ⟨k⟩
theorem bw(k:r)(h:Hid r→g:=by intro h;refine xH rfl rfl rfl rfl underlying41 underlying41 QK GG GG O_ AH AM rfl ?_;exact h.out):g:=h ⟨k⟩
theorem J2(k:r)(h:Hid r→g:=by intro h;refine AA (Ai rfl (jb _ _)) rfl ?_;exact h.out):g:=h ⟨k⟩
theorem KN(k:r)(h:Hid r→g:=by intro h;refine AA (nr rfl underlying41 rfl) rfl ?_;exact h.out):g:=h ⟨k⟩
theorem Rq(k:r)(h:Hid r→g:=by intro h;refine AA (Af rfl) rfl ?_;refine AN ?_;exact h.out):g:=h ⟨k⟩
theorem Nq(k:r)(h:Hid r→g:=by intro h;refine AA (VH rfl rfl underlying41 N8 Dw) rfl ?_;exact h.out):g:=h ⟨k⟩
theorem cm(k:r)(h:Hid r→g:=by intro h;refine AA (C0 rfl Bv Dw) rfl ?_;exact h.out):g:=h ⟨k⟩
theorem om(L:List Nd)(es:List (Value×C6))(N i:Nat)(hN:L.length=N)(hNl:N≤1048576)(hi:i<N)(hA:C2 L):Ev prog (.call 44 [Al 0,Ae (i:Int)] [.row false (.ac [.sl 1 0 N N 3,.mp 2]),.row false (.an L),.row false (.mp es)]) (.val (.tup [.c (.is (BF L i)),Ae ((0:Nat):Int)]) [.row false (.ac [.sl 1 0 N N 3,.mp 2]),.row false (.an L),.row false (.mp es)]):=by
 have hh:hasB N [(i:Int)]=true:=by simp [hasB];omega
 refine AG func44 rfl ntmps44 rfl AH ?_;refine AK ?_;refine G4 ?_;refine BH ?_;refine Nu ?_;refine Fb (Wp L es N [(i:Int)] 1 1 hN O_ rfl O_) dh ?_;refine FO ?_;refine AN ?_;rw [hh]
 refine A9 ?_;refine di ?_;refine Cs (jH (n:=i+1) (m:=4) underlying116 rfl rfl AAi uw O_ O_ rfl) rfl ?_;refine BH ?_;refine Qc ?_;refine Rd (q:=true) rfl rfl rfl pf (by rw [List.length_replicate];omega) AM ?_
 refine AQ ?_;refine Ab ?_;refine Ay ?_;refine FP 7 1 (.ai []) rfl rfl AH rfl ?_;refine S_ ?_;refine DJ [0,1,6,7,8] (fun (zz:Nat×Int×List Bool×Nat×List Int)=>⟨56,AS [0,1,6,7,8] [Al 0,Ae (i:Int),.c (.sl 3 0 (i+1) (i+1) 1),.c (.sl 4 0 zz.2.2.2.1 zz.2.2.2.1 1),Ae zz.2.1],[.row false (.ac [.sl 1 0 N N 3,.mp 2]),.row false (.an L),.row false (.mp es),.row true (.bl zz.2.2.1),.row true (.ai zz.2.2.2.2)]⟩) (fun zz=>zz.1) (fun zz=>(zz.2.1=(zz.1:Int)-1∧zz.1≤i+1∧zz.2.2.1.length=i+1)∧(zz.2.2.2.2.length=zz.2.2.2.1∧zz.1+zz.2.2.2.1≤i+1)∧BF L i=(zz.2.2.2.2++W7 L zz.1 zz.2.2.1).reverse) (i+1,(i:Int),(List.replicate (i+1) false).set i true,0,[]) K_ ⟨⟨by simp,Nat.le_refl _,by simp⟩,⟨rfl,by simp⟩,rfl⟩ ?_
 rintro ⟨k,x,c,on,out⟩ ⟨⟨hx,hk,hc⟩,⟨hol,hon⟩,hB⟩
 dsimp only at hx hk hc hol hon hB ⊢
 cases k with
 |zero=>
  subst hx
  rw [hB,show W7 L 0 c=[] by rfl,List.append_nil]
  refine A9 ?_;refine QP ?_;refine AZ ?_;refine Cs (DG (yB out on on hol O_) AAm rfl rfl rfl BT AM) rfl ?_;refine AZ ?_;refine Er ?_;refine gY 4 rfl rfl (by simp [hol]) AM ?_
  exact Ep
 |succ k=>
  obtain rfl:x=(k:Int):=by omega
  clear hx
  rw [W7.eq_2] at hB
  generalize hq:JN c k=q at*
  cases q with
  |false=>
   rw [if_neg (by simp)] at hB
   refine A9 ?_;refine R1 ?_;refine Df ?_;refine Qc ?_;refine AA (QI rfl rfl XX Dw) rfl ?_;refine Rr ?_;refine Ef rfl (by rw [hq];rfl) ?_
   refine A9 ?_;refine Nv ?_;refine Bc ?_;refine ⟨(k,(k:Int)-1,c,on,out),K_,?_,⟨rfl,?_,hc⟩,⟨hol,?_⟩,hB⟩
   ·dsimp only;omega
   ·dsimp only;omega
   ·dsimp only;omega
  |true=>
   rw [if_pos rfl] at hB
   refine A9 ?_;refine R1 ?_;refine Df ?_;refine Qc ?_;refine AA (QI rfl rfl XX Dw) rfl ?_;refine Rr ?_;refine Bu rfl (by rw [hq];rfl) ?_
   refine Ar ?_;refine Nu ?_;refine bw ?_;refine Ab ?_;refine Ea ?_;refine SQ ?_;refine Ve ?_;refine AR ?_;refine cg ?_;refine J2 ?_;refine Cs (Ev.val (iN (j:=k) rfl O_ rfl TB O_)) rfl ?_;refine KN ?_;refine Rq ?_;have hnd:=hA.nd (i:=k) O_
   have hargs:=hnd.args
   have hlen:=hnd.len.2
   have hml:=ES (Aa L k).k
   have hmc:(mark c (Aa L k).a).length=i+1:=by rw [Of];exact hc
   clear hnd
   generalize (Aa L k).a=a at*
   generalize hm:a.length=m at*
   refine S_ ?_;refine AU [0,1,6,7,8,43,44,45] (fun (zz:Nat×List Bool)=>⟨56,AS [0,1,6,7,8,43,44,45] [Al 0,Ae ((i:Int)),.c (.sl 3 0 (i+1) (i+1) 1),.c (.sl 4 0 (on+1) (on+1) 1),Ae ((k:Int)),.c (.is a),Ae ((m:Int)),Ae ((zz.1:Int))],[.row false (.ac [.sl 1 0 N N 3,.mp 2]),.row false (.an L),.row false (.mp es),.row true (.bl zz.2),.row true (.ai (out++[(k:Int)]))]⟩) (fun j=>(j,mark c (a.take j))) (m) K_ ?_ ?_
   ·intro j hj
    dsimp only
    have h1:=hargs (AX a j) (by simp [AX,show j<a.length by omega])
    have h2:(mark c (a.take j)).length=i+1:=by rw [Of];exact hc
    rw [lE c a j O_]
    generalize mark c (a.take j)=c' at*
    obtain ⟨y,hy⟩:∃y:Nat,AX a j=(y:Int):=⟨(AX a j).toNat,by omega⟩
    refine PH ?_;refine Nq ?_;refine cm ?_;refine Bc ?_;rw [hy] at h1 ⊢
    rw [Int.toNat_natCast]
    refine Ar ?_;refine Qc ?_;refine Rd (q:=true) rfl rfl rfl pf Dw AM ?_;refine D7 ?_;exact ⟨(j+1,_),K_,rfl⟩
   ·dsimp only
    rw [show a.take m=a by rw [←hm,List.take_length]]
    refine SZ ?_;refine AZ ?_;refine Nv ?_;refine Bc ?_;refine ⟨(k,(k:Int)-1,mark c a,on+1,out++[(k:Int)]),K_,?_,⟨rfl,?_,hmc⟩,⟨by simp [hol],?_⟩,by rw [hB];simp⟩
    ·dsimp only;omega
    ·dsimp only;omega
    ·dsimp only;omega
section
variable {P:Program} {T:Nat→AV} {M M':Ak} {t t' el:TypeId} {s x:Operand}
theorem ze{lo hi:Option Operand}{y:List Int}{l h:Nat}(hx:AC T x= .c (.is y))(hu:P.underlying t=some (.slice el))(hs:De P el=some 1)(hl:QO 0 (lo.map (AC T))=some (l:Int))(hh:QO y.length (hi.map (AC T))=some (h:Int))(h1:l≤h)(h2:h≤y.length):AL P (AC T) M (.slice t x lo hi none)=some (.c (.is (cut y l (h-l)))):=by
 show HP P M t (AC T x) (lo.map (AC T)) (hi.map (AC T))=_
 rw [hx]
 simp only [HP,hu,hl,hh]
 rw [if_pos ⟨hs,by omega,by omega,by omega⟩]
 congr 4
 omega
theorem So{lo:Operand}{y:List Int}{l:Nat}{kd:IntKind}(hx:AC T x= .c (.is y))(hl:AC T lo= .c (.val (.int kd (l:Int))))(hu:P.underlying t=some (.slice el))(hs:De P el=some 1)(h2:l≤y.length):AL P (AC T) M (.slice t x (some lo) none none)=some (.c (.is (y.drop l))):=by
 rw [ze (l:=l) (h:=y.length) hx hu hs (by simp [QO,Fc,hl]) rfl h2 (Nat.le_refl _)]
 congr 3
 unfold cut
 rw [List.take_of_length_le (by simp)]
theorem iq{l y:AB 8}{n c b by':Nat}{own:Bool}(hs:AC T s= .c (.lb l))(hx:AC T x= .c (.sl b 0 n c 1))(hm:M[b]?=some (.row own (.a8 y)))(hn:y.length=n)(hu:P.underlying t=some (.slice el))(hu2:P.underlying t'=some (.slice el))(he:Bi P el=some (1,by'))(hb:(l.length+n)*by'≤140737488355328∧l.length+n≤9223372036854775807):
  Ev P (.op (.call { callee:= .builtin .append,args:= #[s,x],argTypes:= #[t,t'] }) (AC T) M) (.val (.c (.bs (l++y))) M):=
 oA hs (by subst hn;rw [hx];simp [Eo,hm,Ft,Arr.size]) hu hu2 he hb
theorem gZ{l y:AB 8}{by':Nat}(hs:AC T s= .c (.lb l))(hx:AC T x= .c (.bs y))(hu:P.underlying t=some (.slice el))(hu2:P.underlying t'=some (.slice el))(he:Bi P el=some (1,by'))(hb:(l.length+y.length)*by'≤140737488355328∧l.length+y.length≤9223372036854775807):
  Ev P (.op (.call { callee:= .builtin .append,args:= #[s,x],argTypes:= #[t,t'] }) (AC T) M) (.val (.c (.bs (l++y))) M):=
 oA hs (by rw [hx];simp [Eo]) hu hu2 he hb
end
section
variable {P:Program} {ops:Array Oper} {l:List Oper} {N d:Nat} {T:Nat→AV} {M M':Ak} {K:St→Prop} {ty:TypeId} {pos:String} {af:Array Edge}
theorem Rl{op:Op}{v:AV}(h:Ev P (.op op (AC T) (BZ M)) (.val v (BZ M)))(hd:decide (d<N)=true)(hk:HO P ops l ⟨N,upd T d v,M⟩ K):HO P ops (⟨some d,op,ty,pos,af,none⟩::l) ⟨N,T,M⟩ K:=
 Io (news:=[]) (by rw [List.append_nil];exact h) (List.append_nil _) hd hk
end
def PK(x:Nat)(X1:AB 8)(j3:Nat):AB 8:=X1++[((BitVec.ofNat 64 x)>>>(8*j3)).setWidth 8]
def Es(x:Nat):Nat→AB 8
 |0=>[]
 |j3+1=>PK x (Es x j3) j3
@[simp] theorem K9(x j3:Nat):(Es x j3).length=j3:=by
 induction j3 with
 |zero=>(simp [Es, *];done)
 |succ j3 ih=>rw [Es.eq_2,PK];(simp [ih];done)
def GA(x:Nat):AB 8:=(Es x 4)
abbrev CM(x:List (BitVec 8)):Row:= .row true (.a8 x)
theorem Lu(k:r)(h:Hid r→g:=by intro h;refine AA (BA (b:=4) rfl rfl) rfl ?_;exact h.out):g:=h ⟨k⟩
theorem cW(k:r)(h:Hid r→g:=by intro h;refine AA (F3 rfl underlying3 underlying70 (iQ _)) rfl ?_;exact h.out):g:=h ⟨k⟩
theorem QZ(k:r)(h:Hid r→g:=by intro h;refine AA (Af rfl) rfl ?_;refine AA (K4 (a:=8) rfl rfl O_) rfl ?_;exact h.out):g:=h ⟨k⟩
theorem SA(k:r)(h:Hid r→g:=by intro h;refine AA (CY rfl rfl) rfl ?_;exact h.out):g:=h ⟨k⟩
theorem Rz(k:r)(h:Hid r→g:=by intro h;refine AA (F3 rfl underlying70 underlying5 (pU _)) rfl ?_;exact h.out):g:=h ⟨k⟩
theorem Wz(k:r)(h:Hid r→g:=by intro h;refine BE (Xz (l:=[_]) underlying23 Gb rfl rfl D_ D_ AH) AM rfl ?_;exact h.out):g:=h ⟨k⟩
theorem Cr(k:r)(h:Hid r→g:=by intro h;refine yU rfl rfl rfl rfl underlying23 underlying23 Gb GG GG O_ AH AM rfl ?_;exact h.out):g:=h ⟨k⟩
theorem F9(k:r)(h:Hid r→g:=by intro h;refine AA (EH (b:=1) rfl rfl O_) rfl ?_;refine AA (Af rfl) rfl ?_;refine AN ?_;exact h.out):g:=h ⟨k⟩
theorem PV(k:r)(h:Hid r→g:=by intro h;refine AA (BA (a:=4) (b:=4) rfl rfl) rfl ?_;exact h.out):g:=h ⟨k⟩
theorem CT(k:r)(h:Hid r→g:=by intro h;refine AN ?_;refine S_ ?_;refine Aq ?_;refine AA (Af rfl) rfl ?_;refine AA (Ac rfl) rfl ?_;refine AN ?_;refine S_ ?_;exact h.out):g:=h ⟨k⟩
theorem EZ(h:g:=by exact gw (EG rfl) (by (kernel_rfl))):g:=h
theorem ko(x:Nat)(_hx:x≤9223372036854775807):Ev prog (.call 35 [Ae ((x:Nat):Int),Ae ((4:Nat):Int)] []) (.val (.c (.sl 0 0 4 4 1)) [CM (GA x)]):=by
 have hP:=Hid.mk (GA.eq_1 x)
 refine AG func35 rfl ntmps35 rfl AH ?_;refine QM ?_;refine BH ?_;refine A6 ?_;refine FP 5 1 (.a8 ([])) rfl rfl AH rfl ?_;refine S_ ?_;refine AU [0,5,7,8] (fun (zz:Nat×AB 8)=>⟨22,AS [0,5,7,8] [Ae (((x:Nat):Int)),.c (.sl 0 0 zz.1 zz.1 1),Ae (((4:Nat):Int)),Ae (((zz.1:Nat):Int))],[CM (zz.2)]⟩) (fun j3=>(j3,Es x j3)) (4) K_ ?_ ?_
 ·intro j3 hj3
  try dsimp only
  have hX1:(Es x j3).length=j3:=by rw [K9 x _];try omega
  rw [Es.eq_2,PK]
  generalize Es x j3=X1 at*
  refine AK ?_;refine Lu ?_;refine AZ ?_;refine BH ?_;refine cW ?_;refine QZ ?_;refine SA ?_;refine Rz ?_;refine Wz ?_;refine Cr ?_;refine Ad ?_;refine F9 ?_;exact ⟨(j3+1,_),K_,rfl⟩
 ·try dsimp only
  have hY2:(Es x 4).length=4:=by rw [K9 x _];try omega
  generalize Es x 4=Y2 at*
  refine AK ?_;refine PV ?_;refine CT ?_;rw [hP.out]
  exact EZ
@[simp] theorem RD(x:Nat):(GA x).length=4:=by
 unfold GA
 (simp [K9, *];done)
attribute [irreducible] GA
def Ou(x:Nat)(X1:AB 8)(j3:Nat):AB 8:=X1++[((BitVec.ofNat 64 x)>>>(8*j3)).setWidth 8]
def En(x:Nat):Nat→AB 8
 |0=>[]
 |j3+1=>Ou x (En x j3) j3
@[simp] theorem Li(x j3:Nat):(En x j3).length=j3:=by
 induction j3 with
 |zero=>(simp [En, *];done)
 |succ j3 ih=>rw [En.eq_2,Ou];(simp [ih];done)
def FJ(x:Nat):AB 8:=(En x 8)
theorem Qm(k:r)(h:Hid r→g:=by intro h;refine AA (BA (b:=8) rfl rfl) rfl ?_;exact h.out):g:=h ⟨k⟩
theorem VR(k:r)(h:Hid r→g:=by intro h;refine AA (BA (a:=8) (b:=8) rfl rfl) rfl ?_;exact h.out):g:=h ⟨k⟩
theorem Tb(x:Nat)(_hx:x≤9223372036854775807):Ev prog (.call 35 [Ae ((x:Nat):Int),Ae ((8:Nat):Int)] []) (.val (.c (.sl 0 0 8 8 1)) [CM (FJ x)]):=by
 have hP:=Hid.mk (FJ.eq_1 x)
 refine AG func35 rfl ntmps35 rfl AH ?_;refine QM ?_;refine BH ?_;refine A6 ?_;refine FP 5 1 (.a8 ([])) rfl rfl AH rfl ?_;refine S_ ?_;refine AU [0,5,7,8] (fun (zz:Nat×AB 8)=>⟨22,AS [0,5,7,8] [Ae (((x:Nat):Int)),.c (.sl 0 0 zz.1 zz.1 1),Ae (((8:Nat):Int)),Ae (((zz.1:Nat):Int))],[CM (zz.2)]⟩) (fun j3=>(j3,En x j3)) (8) K_ ?_ ?_
 ·intro j3 hj3
  try dsimp only
  have hX1:(En x j3).length=j3:=by rw [Li x _];try omega
  rw [En.eq_2,Ou]
  generalize En x j3=X1 at*
  refine AK ?_;refine Qm ?_;refine AZ ?_;refine BH ?_;refine cW ?_;refine QZ ?_;refine SA ?_;refine Rz ?_;refine Wz ?_;refine Cr ?_;refine Ad ?_;refine F9 ?_;exact ⟨(j3+1,_),K_,rfl⟩
 ·try dsimp only
  have hY2:(En x 8).length=8:=by rw [Li x _];try omega
  generalize En x 8=Y2 at*
  refine AK ?_;refine VR ?_;refine CT ?_;rw [hP.out]
  exact EZ
@[simp] theorem RT(x:Nat):(FJ x).length=8:=by
 unfold FJ
 (simp [Li, *];done)
attribute [irreducible] FJ
def RN(x:BitVec 64)(X1:AB 8)(j3:Nat):AB 8:=X1++[(x>>>(BitVec.ofNat 64 (8*j3)).toNat).setWidth 8]
def F7(x:BitVec 64):Nat→AB 8
 |0=>[]
 |j3+1=>RN x (F7 x j3) j3
@[simp] theorem SJ(x:BitVec 64)(j3:Nat):(F7 x j3).length=j3:=by
 induction j3 with
 |zero=>(simp [F7, *];done)
 |succ j3 ih=>rw [F7.eq_2,RN];(simp [ih];done)
def bN(x:BitVec 64):AB 8:=(F7 x 4)
theorem Cl(k:r)(h:Hid r→g:=by intro h;refine AA (EH (b:=1) rfl rfl O_) rfl ?_;refine AA (Ac rfl) rfl ?_;refine AN ?_;exact h.out):g:=h ⟨k⟩
theorem nf(x:BitVec 64):Ev prog (.call 36 [.c (.val (BW x)),Ae ((4:Nat):Int)] []) (.val (.c (.sl 0 0 4 4 1)) [CM (bN x)]):=by
 have hP:=Hid.mk (bN.eq_1 x)
 refine AG func36 rfl ntmps36 rfl AH ?_;refine QM ?_;refine Ad ?_;refine Ay ?_;refine FP 5 1 (.a8 ([])) rfl rfl AH rfl ?_;refine S_ ?_;refine AU [0,1,5,6] (fun (zz:Nat×AB 8)=>⟨22,AS [0,1,5,6] [.c (.val (BW (x))),Ae (((4:Nat):Int)),.c (.sl 0 0 zz.1 zz.1 1),Ae (((zz.1:Nat):Int))],[CM (zz.2)]⟩) (fun j3=>(j3,F7 x j3)) (4) K_ ?_ ?_
 ·intro j3 hj3
  try dsimp only
  have hX1:(F7 x j3).length=j3:=by rw [SJ x _];try omega
  rw [F7.eq_2,RN]
  generalize F7 x j3=X1 at*
  refine Ar ?_;refine Lu ?_;refine Df ?_;refine QZ ?_;refine AA (F3 rfl underlying3 underlying71 (iQ _)) rfl ?_;refine AA (da rfl rfl) rfl ?_;refine Rz ?_;refine Wz ?_;refine Cr ?_;refine Ab ?_;refine Cl ?_;exact ⟨(j3+1,_),K_,rfl⟩
 ·try dsimp only
  have hY2:(F7 x 4).length=4:=by rw [SJ x _];try omega
  generalize F7 x 4=Y2 at*
  refine Ar ?_;refine PV ?_;refine CT ?_;rw [hP.out]
  exact EZ
attribute [irreducible] bN
def Jp(l:List (AB 8)):Nat→Nat
 |0=>0
 |j+1=>Jp l j+(4+(Fh l j).length)
def Sa(l:List (AB 8)):Nat→AB 8
 |0=>[]
 |j+1=>(Sa l j++GA (Fh l j).length)++Fh l j
@[simp] theorem NN(l:List (AB 8))(j:Nat):(Sa l j).length=Jp l j:=by
 induction j with
 |zero=>rfl
 |succ j ih=>simp only [Sa,Jp,List.length_append,RD,ih];omega
theorem PS (l : List (AB 8)) {i j : Nat} (h : i ≤ j) : Jp l i ≤ Jp l j := by
  induction j with
  | zero => obtain rfl : i = 0 := by omega
            exact Nat.le_refl _
  | succ j ih =>
    rcases Nat.lt_or_ge j i with h1 | h1
    · obtain rfl : i = j + 1 := by omega
      exact Nat.le_refl _
    · have := ih h1
      rw [Jp.eq_2]; omega
def jn(l:List (AB 8)):AB 8:=Sa l l.length
def jl(l:List (AB 8)):Nat:=Jp l l.length
theorem NP(l:List (AB 8)):(jn l).length=jl l:=NN l _
theorem EV(k:r)(h:Hid r→g:=by intro h;refine AA (Ac rfl) rfl ?_;refine AA (Ac rfl) rfl ?_;refine AN ?_;refine S_ ?_;refine Aq ?_;exact h.out):g:=h ⟨k⟩
theorem HH(k:r)(h:Hid r→g:=by intro h;refine AA (JL rfl underlying22) rfl ?_;exact h.out):g:=h ⟨k⟩
theorem Qo(k:r)(h:Hid r→g:=by intro h;refine AA (DI rfl rfl underlying22 Nn O_) rfl ?_;exact h.out):g:=h ⟨k⟩
theorem PL(k:r)(h:Hid r→g:=by intro h;refine AA (QJ rfl rfl Qq Dw) rfl ?_;exact h.out):g:=h ⟨k⟩
theorem Cy(k:r)(h:Hid r→g:=by intro h;refine AA (eF rfl underlying23 rfl) rfl ?_;exact h.out):g:=h ⟨k⟩
theorem aL(k:r)(h:Hid r→g:=by intro h;refine AA (EH (a:=4) rfl rfl O_) rfl ?_;exact h.out):g:=h ⟨k⟩
theorem I5(k:r)(h:Hid r→g:=by intro h;refine AA (EH rfl rfl O_) rfl ?_;exact h.out):g:=h ⟨k⟩
theorem FI(k:r)(h:Hid r→g:=by intro h;refine AA (Fd (b:=65536) rfl rfl) rfl ?_;exact h.out):g:=h ⟨k⟩
theorem jp(l:List (AB 8))(n cap:Nat)(hl:l.length=n)(hn:n≤1099511627776)(hs:jl l≤65536):Ev prog (.call 11 [.c (.sl 0 0 n cap 1)] [.row false (.ab l)]) (.val (.tup [.c (.bs (jn l)),Ae ((0:Nat):Int)]) [.row false (.ab l)]):=by
 have hP:Hid (jn l=Sa l n):=⟨by rw [jn,hl]⟩
 have hs:Jp l n≤65536:=by rw [jl,hl] at hs;exact hs
 have hl:l.length=n:=hl
 refine AG func11 rfl ntmps11 rfl AH ?_;refine AK ?_;refine EV ?_;refine Ab ?_;refine HH ?_;refine RO ?_;refine AU [0,4,10,11,12] (fun (zz:Nat×Nat)=>⟨39,AS [0,4,10,11,12] [.c (.sl 0 0 n cap 1),Ae (((zz.2:Nat):Int)),.c (.sl 0 0 n cap 1),Ae (((n:Nat):Int)),Ae (((zz.1:Nat):Int))],[.row false (.ab l)]⟩) (fun j=>(j,Jp l j)) (n) K_ ?_ ?_
 ·intro j hj
  have h1:Jp l (j+1)≤65536:=Nat.le_trans (PS l hj) hs
  try dsimp only
  rw [Jp.eq_2] at*
  generalize Jp l j=X at*
  refine PH ?_;refine Qo ?_;refine PL ?_;refine BH ?_;refine Cy ?_;refine aL ?_;refine I5 ?_;refine Ab ?_;refine FI ?_;refine D7 ?_;exact ⟨(j+1,_),K_,rfl⟩
 ·try dsimp only
  refine PH ?_;refine Ab ?_;refine HH ?_;refine RO ?_;refine FP 7 1 (.a8 []) rfl rfl AH rfl ?_;refine S_ ?_;refine AU [7,24,25,26] (fun (zz:Nat×Nat×AB 8)=>⟨39,AS [7,24,25,26] [.c (.sl 1 0 zz.2.1 zz.2.1 1),.c (.sl 0 0 n cap 1),Ae (((n:Nat):Int)),Ae (((zz.1:Nat):Int))],[.row false (.ab l),CM (zz.2.2)]⟩) (fun j=>(j,Jp l j,Sa l j)) (n) K_ ?_ ?_
  ·intro j hj
   have h1:Jp l (j+1)≤65536:=Nat.le_trans (PS l hj) hs
   have hX:(Sa l j).length=Jp l j:=NN l j
   try dsimp only
   rw [Jp.eq_2] at*
   rw [Sa.eq_2]
   generalize Jp l j=Y at*
   generalize Sa l j=X at*
   refine PH ?_;refine Qo ?_;refine PL ?_;refine Bc ?_;have h2:(X++GA (Fh l j).length).length=Y+4:=by simp [hX]
   refine Ar ?_;refine Cy ?_;refine Fb (ko (Fh l j).length O_) gT ?_;refine Cr ?_;refine AR ?_;refine oS rfl rfl rfl underlying23 underlying23 Gb GG GG O_ AH AM rfl ?_;refine Ad ?_;refine F9 ?_;rw [show Y+(4+(Fh l j).length)=Y+4+(Fh l j).length by omega]
   exact ⟨(j+1,_,_),K_,rfl⟩
  ·try dsimp only
   have hX:(Sa l n).length=Jp l n:=NN l n
   rw [hP.out]
   generalize Jp l n=Y at*
   generalize Sa l n=X at*
   refine SZ ?_;refine A6 ?_;refine HD 7 rfl rfl hX rfl ?_;refine A9 ?_;exact Ct
theorem YF(l:List (AB 8))(n:Nat)(h:65536<Jp l n):∃q,q<n∧Jp l q≤65536∧65536<Jp l (q+1):=by
 induction n with
 |zero=>simp [Jp] at h
 |succ n ih=>
  by_cases h1:65536<Jp l n
  ·obtain ⟨q,h2,h3⟩:=ih h1
   exact ⟨q,by omega,h3⟩
  ·exact ⟨n,by omega,by omega,h⟩
theorem dy(l:List (AB 8))(n cap:Nat)(hl:l.length=n)(hn:n≤1099511627776)(hb:∀j,(Fh l j).length≤1099511627776)(hs:65536<jl l):Ev prog (.call 11 [.c (.sl 0 0 n cap 1)] [.row false (.ab l)]) (.val (.tup [.c (.bs []),Ae ((2:Nat):Int)]) [.row false (.ab l)]):=by
 have hs:65536<Jp l n:=by rw [jl,hl] at hs;exact hs
 obtain ⟨q,hq,h1,h2⟩:=YF l n hs
 refine AG func11 rfl ntmps11 rfl AH ?_;refine AK ?_;refine EV ?_;refine Ab ?_;refine HH ?_;refine RO ?_;refine AU [0,4,10,11,12] (fun (zz:Nat×Nat)=>⟨39,AS [0,4,10,11,12] [.c (.sl 0 0 n cap 1),Ae (((zz.2:Nat):Int)),.c (.sl 0 0 n cap 1),Ae (((n:Nat):Int)),Ae (((zz.1:Nat):Int))],[.row false (.ab l)]⟩) (fun j=>(j,Jp l j)) (q) K_ ?_ ?_
 ·intro j hj
  have h3:Jp l (j+1)≤65536:=Nat.le_trans (PS l hj) h1
  clear h2
  try dsimp only
  rw [Jp.eq_2] at*
  generalize Jp l j=X at*
  refine PH ?_;refine Qo ?_;refine PL ?_;refine BH ?_;refine Cy ?_;refine aL ?_;refine I5 ?_;refine Ab ?_;refine FI ?_;refine D7 ?_;exact ⟨(j+1,_),K_,rfl⟩
 ·try dsimp only
  have h3:=hb q
  rw [Jp.eq_2] at h2
  generalize Jp l q=X at*
  refine PH ?_;refine Qo ?_;refine PL ?_;refine BH ?_;refine Cy ?_;refine aL ?_;refine I5 ?_;refine Ab ?_;refine FI ?_;refine AQ ?_;refine Cs (oh (Ev.val (Ac rfl))) rfl ?_;refine Ay ?_;exact QW
theorem et(n:Nat):bN (BitVec.ofNat 64 n)=GA n:=by
 unfold bN GA
 rfl
theorem Xa(n:Nat):Ev prog (.call 36 [.c (.val (BW (BitVec.ofNat 64 n))),Ae ((4:Nat):Int)] []) (.val (.c (.sl 0 0 4 4 1)) [CM (GA n)]):=by
 rw [←et];exact nf _
theorem Ql(k:r)(h:Hid r→g:=by intro h;refine AA (EH (b:=4) rfl rfl O_) rfl ?_;exact h.out):g:=h ⟨k⟩
theorem LG(k:r)(h:Hid r→g:=by intro h;refine AA (Af rfl) rfl ?_;refine AA (JL rfl underlying23) rfl ?_;exact h.out):g:=h ⟨k⟩
theorem eH(k:r)(h:Hid r→g:=by intro h;refine AA (Fg (a:=65536) rfl rfl O_ O_) rfl ?_;exact h.out):g:=h ⟨k⟩
theorem YX(k:r)(h:Hid r→g:=by intro h;refine Bf (DI rfl rfl underlying22 Nn O_) rfl ?_;exact h.out):g:=h ⟨k⟩
theorem Mh(k:r)(h:Hid r→g:=by intro h;refine Bf (Ac rfl) rfl ?_;refine iI ?_;exact h.out):g:=h ⟨k⟩
theorem jy(l:List (AB 8))(n cap:Nat)(hl:l.length=n)(hn:n≤1099511627776)(hs:jl l≤65536):Ev prog (.call 12 [.c (.sl 0 0 n cap 1)] [.row false (.ab l)]) (.val (.tup [.c (.bs (jn l)),.c (.val (.bool true))]) [.row false (.ab l)]):=by
 have hP:Hid (jn l=Sa l n):=⟨by rw [jn,hl]⟩
 have hs:Jp l n≤65536:=by rw [jl,hl] at hs;exact hs
 refine AG func12 rfl ntmps12 rfl AH ?_;refine AK ?_;refine EV ?_;refine Ad ?_;refine Ay ?_;refine FP 4 1 (.a8 []) rfl rfl AH rfl ?_;refine S_ ?_;refine AU [0,4,5] (fun (zz:Nat×Nat×AB 8)=>⟨37,AS [0,4,5] [.c (.sl 0 0 n cap 1),.c (.sl 1 0 zz.2.1 zz.2.1 1),Ae (((zz.1:Nat):Int))],[.row false (.ab l),CM (zz.2.2)]⟩) (fun j=>(j,Jp l j,Sa l j)) (n) K_ ?_ ?_
 ·intro j hj
  have h1:Jp l (j+1)≤65536:=Nat.le_trans (PS l hj) hs
  have hX:(Sa l j).length=Jp l j:=NN l j
  try dsimp only
  rw [Jp.eq_2] at*
  rw [Sa.eq_2]
  generalize Jp l j=Y at*
  generalize Sa l j=X at*
  refine Ar ?_;refine HH ?_;refine DF ?_;refine Df ?_;refine Qo ?_;refine PL ?_;refine Cy ?_;refine Ql ?_;refine LG ?_;refine eH ?_;refine QU ?_;refine A6 ?_;refine Gm [(8,[1]),(13,[])] [1] 2 mixed K_ K_ ?_;refine Gj ?_;refine JP ?_;refine YX ?_;refine Bf (QJ rfl rfl Qq Dw) rfl ?_;refine Bf (eF rfl underlying23 rfl) rfl ?_;refine Bf (F3 rfl underlying3 underlying70 (iQ _)) rfl ?_;refine lT (Rs (AY (Xa (Fh l j).length) ux rfl rfl rfl BT) AH An rfl) (fun _=>rfl) rfl ?_
  refine Dc (Zv (len:=Y) (n:=4) rfl rfl rfl underlying23 underlying23 Gb GG GG O_ AH AM) rfl W4 ?_;refine Gj ?_;refine YX ?_;refine Bf (QJ rfl rfl Qq Dw) rfl ?_;refine Dc (Zv (len:=Y+4) (n:=(Fh l j).length) rfl rfl rfl underlying23 underlying23 Gb GG GG O_ AH AM) rfl W4 ?_;refine Mh ?_;refine A9 ?_;refine Cl ?_;rw [show Y+(4+(Fh l j).length)=Y+4+(Fh l j).length by omega]
  exact ⟨(j+1,_,_),K_,rfl⟩
 ·try dsimp only
  have hX:(Sa l n).length=Jp l n:=NN l n
  rw [hP.out]
  generalize Jp l n=Y at*
  generalize Sa l n=X at*
  refine Ar ?_;refine HH ?_;refine SN ?_;refine HD 4 rfl rfl hX rfl ?_;refine A9 ?_;exact Ct
theorem gE(l:List (AB 8))(n cap:Nat)(hl:l.length=n)(hn:n≤1099511627776)(hb:∀j,(Fh l j).length≤1099511627776)(hs:65536<jl l):Ev prog (.call 12 [.c (.sl 0 0 n cap 1)] [.row false (.ab l)]) (.val (.tup [.c (.bs []),.c (.val (.bool false))]) [.row false (.ab l)]):=by
 have hs:65536<Jp l n:=by rw [jl,hl] at hs;exact hs
 obtain ⟨q,hq,h1,h2⟩:=YF l n hs
 refine AG func12 rfl ntmps12 rfl AH ?_;refine AK ?_;refine EV ?_;refine Ad ?_;refine Ay ?_;refine FP 4 1 (.a8 []) rfl rfl AH rfl ?_;refine S_ ?_;refine AU [0,4,5] (fun (zz:Nat×Nat×AB 8)=>⟨37,AS [0,4,5] [.c (.sl 0 0 n cap 1),.c (.sl 1 0 zz.2.1 zz.2.1 1),Ae (((zz.1:Nat):Int))],[.row false (.ab l),CM (zz.2.2)]⟩) (fun j=>(j,Jp l j,Sa l j)) (q) K_ ?_ ?_
 ·intro j hj
  have h3:Jp l (j+1)≤65536:=Nat.le_trans (PS l hj) h1
  have hX:(Sa l j).length=Jp l j:=NN l j
  clear h2
  try dsimp only
  rw [Jp.eq_2] at*
  rw [Sa.eq_2]
  generalize Jp l j=Y at*
  generalize Sa l j=X at*
  refine Ar ?_;refine HH ?_;refine DF ?_;refine Df ?_;refine Qo ?_;refine PL ?_;refine Cy ?_;refine Ql ?_;refine LG ?_;refine eH ?_;refine QU ?_;refine A6 ?_;refine Gm [(8,[1]),(13,[])] [1] 2 mixed K_ K_ ?_;refine Gj ?_;refine JP ?_;refine YX ?_;refine Bf (QJ rfl rfl Qq Dw) rfl ?_;refine Bf (eF rfl underlying23 rfl) rfl ?_;refine Bf (F3 rfl underlying3 underlying70 (iQ _)) rfl ?_;refine lT (Rs (AY (Xa (Fh l j).length) ux rfl rfl rfl BT) AH An rfl) (fun _=>rfl) rfl ?_
  refine Dc (Zv (len:=Y) (n:=4) rfl rfl rfl underlying23 underlying23 Gb GG GG O_ AH AM) rfl W4 ?_;refine Gj ?_;refine YX ?_;refine Bf (QJ rfl rfl Qq Dw) rfl ?_;refine Dc (Zv (len:=Y+4) (n:=(Fh l j).length) rfl rfl rfl underlying23 underlying23 Gb GG GG O_ AH AM) rfl W4 ?_;refine Mh ?_;refine A9 ?_;refine Cl ?_;rw [show Y+(4+(Fh l j).length)=Y+4+(Fh l j).length by omega]
  exact ⟨(j+1,_,_),K_,rfl⟩
 ·try dsimp only
  have h3:=hb q
  have hX:(Sa l q).length=Jp l q:=NN l q
  rw [Jp.eq_2] at h2
  generalize Jp l q=Y at*
  generalize Sa l q=X at*
  refine Ar ?_;refine HH ?_;refine DF ?_;refine Df ?_;refine Qo ?_;refine PL ?_;refine Cy ?_;refine Ql ?_;refine LG ?_;refine eH ?_;refine QU ?_;refine AQ ?_;refine Cs (oh (Ev.val (Ac rfl))) rfl ?_;refine Ay ?_;exact QW
def av(b:AB 8):Nat→Nat
 |0=>0
 |k+1=>av b k ||| (nth b k).toNat*2^(8*k)
theorem Xj(x:BitVec 8){k:Nat}(hk:k<4):x.toNat*2^(8*k)<4294967296:=by
 have:=x.isLt
 rcases (by omega:k=0∨k=1∨k=2∨k=3) with rfl | rfl | rfl | rfl<;>omega
theorem eK(b:AB 8):∀k,k≤4→av b k<4294967296
 |0,_=>by simp [av]
 |k+1,h=>Nat.or_lt_two_pow (n:=32) (eK b k O_) (Xj _ O_)
def rq(b:AB 8):Option (List (AB 8)):=
 if b.length=0 then some []
 else if _h:b.length<4 then none
 else if (b.drop 4).length<av b 4 then none
 else (rq ((b.drop 4).drop (av b 4))).map ((b.drop 4).take (av b 4):: ·)
termination_by b.length
decreasing_by simp only [List.length_drop];omega
def jr(b:AB 8):List (AB 8)×Nat:=
 if 65536<b.length then ([],2) else match rq b with | some l=>(l,0) | none=>([],2)
theorem Wv{b:AB 8}{l:List (AB 8)}(h:b.length≤65536)(hl:rq b=some l):jr b=(l,0):=by
 unfold jr
 rw [if_neg O_,hl]
theorem Wo{b:AB 8}(h:65536<b.length∨rq b=none):jr b=([],2):=by
 unfold jr
 split
 ·rfl
 ·rcases h with h | h
  ·omega
  ·rw [h]
theorem tD(out:List (AB 8))(x:AB 8)(o:Option (List (AB 8))):(o.map (x:: ·)).map (out++ ·)=o.map ((out++[x])++ ·):=by
 cases o<;>simp
theorem NC(k:r)(h:Hid r→g:=by intro h;refine AA (Fd (b:=0) rfl rfl) rfl ?_;exact h.out):g:=h ⟨k⟩
theorem JK(k:r)(h:Hid r→g:=by intro h;refine BE (np underlying23 Gb) AM rfl ?_;exact h.out):g:=h ⟨k⟩
theorem FZ(k:r)(h:Hid r→g:=by intro h;refine AA (Af rfl) rfl ?_;refine AA (Af rfl) rfl ?_;exact h.out):g:=h ⟨k⟩
theorem gH(k:r)(h:Hid r→g:=by intro h;refine Cs (Rs (Ev.mem (sg rfl rfl underlying23 underlying23 Gb GG O_ AH)) AH An rfl) rfl ?_;exact h.out):g:=h ⟨k⟩
theorem Zm(k:r)(h:Hid r→g:=by intro h;refine BE (uh underlying22 nA (qA _) rfl CS_ D_ D_ AH) AM rfl ?_;exact h.out):g:=h ⟨k⟩
theorem ev(k:r)(h:Hid r→g:=by intro h;refine xA rfl rfl rfl rfl underlying22 underlying22 nA GG O_ AH AM rfl ?_;exact h.out):g:=h ⟨k⟩
theorem VY(b:AB 8)(hb:b.length≤1099511627776):Ev prog (.call 15 [.c (.bs b)] []) (.val (.tup [.c (.sl 0 0 (jr b).1.length (jr b).1.length 1),Ae ((jr b).2:Int)]) [.row true (.ab (jr b).1)]):=by
 refine AG func15 rfl ntmps15 rfl AH ?_;refine AK ?_;refine rI ?_;by_cases h0:65536<b.length
 ·rw [Wo (.inl h0)]
  refine A9 ?_;refine Cy ?_;refine FI ?_;refine AQ ?_;refine Er ?_;refine FP 2 1 (.ab []) rfl rfl AH rfl ?_;exact Ep
 ·refine S_ ?_
  refine Cj ?_;refine Cy ?_;refine FI ?_;refine AQ ?_;refine Ay ?_;refine FP 4 1 (.ab []) rfl rfl AH rfl ?_;refine S_ ?_;refine DJ [0,4] (fun (zz:AB 8×Nat×List (AB 8))=>⟨48,AS [0,4] [.c (.bs zz.1),.c (.sl 0 0 zz.2.1 zz.2.1 1)],[.row true (.ab zz.2.2)]⟩) (fun zz=>zz.1.length) (fun zz=>rq b=(rq zz.1).map (zz.2.2++ ·)∧zz.2.2.length=zz.2.1∧zz.1.length+zz.2.1≤65536) (b,0,[]) K_ ⟨by simp,rfl,by simp;omega⟩ ?_
  rintro ⟨r,on,out⟩ ⟨hR,hol,hsz⟩
  dsimp only at hR hol hsz ⊢
  rw [rq.eq_1 r] at hR
  by_cases h1:r.length=0
  ·rw [if_pos h1] at hR
   rw [Wv (l:=out) O_ (by rw [hR];simp)]
   refine A9 ?_;refine Cy ?_;refine NC ?_;refine AN ?_;rw [hol]
   refine A9 ?_;exact Ct
  rw [if_neg h1] at hR
  refine A9 ?_;refine Cy ?_;refine NC ?_;refine AN ?_;by_cases h2:r.length<4
  ·rw [dif_pos h2] at hR
   rw [Wo (.inr (by rw [hR];rfl))]
   refine A9 ?_;refine Cy ?_;refine Lu ?_;refine AQ ?_;refine Er ?_;refine FP 2 1 (.ab []) rfl rfl AH rfl ?_;exact Ep
  rw [dif_neg h2] at hR
  refine A9 ?_;refine Cy ?_;refine Lu ?_;refine AQ ?_;refine Ab ?_;refine A6 ?_;refine AU [0,4,5,16] (fun (zz:Nat×Nat)=>⟨48,AS [0,4,5,16] [.c (.bs r),.c (.sl 0 0 on on 1),Ae (((zz.2:Nat):Int)),Ae (((zz.1:Nat):Int))],[.row true (.ab out)]⟩) (fun j=>(j,av r j)) (4) K_ ?_ ?_
  ·intro j hj
   have h3:=eK r j O_
   have h4:=Xj (nth r j) hj
   try dsimp only
   rw [av.eq_2]
   generalize av r j=X at*
   refine AK ?_;refine Lu ?_;refine AZ ?_;refine BH ?_;refine AR ?_;refine AA (yZ rfl rfl underlying23 Bz Dw) rfl ?_;refine AA (sw rfl bZ Dw) rfl ?_;refine AA (F3 rfl underlying5 underlying3 (ACa _)) rfl ?_;refine QZ ?_;refine Cs (Ev.val (wD rfl rfl O_ O_)) rfl ?_;refine Cs (Ev.val (AA6 rfl rfl O_ O_)) rfl ?_;refine Ad ?_;refine F9 ?_;exact ⟨(j+1,_),K_,rfl⟩
  ·have h3:=eK r 4 O_
   have h5:(r.drop 4).length=r.length-4:=by simp
   try dsimp only
   generalize av r 4=n at*
   generalize hr4:r.drop 4=r4 at*
   refine AK ?_;refine Lu ?_;refine AZ ?_;refine AA (Sl (l:=4) rfl rfl underlying23 Bz UD) rfl ?_;refine Bc ?_;rw [hr4]
   by_cases h6:r4.length<n
   ·rw [if_pos h6] at hR
    rw [Wo (.inr (by rw [hR];rfl))]
    refine Ar ?_;refine Cy ?_;refine QU ?_;refine AQ ?_;refine Er ?_;refine FP 2 1 (.ab []) rfl rfl AH rfl ?_;exact Ep
   rw [if_neg h6,tD] at hR
   have h7:(r4.take n).length=n:=by simp;omega
   have h8:(r4.drop n).length=r4.length-n:=by simp
   refine Ar ?_;refine Cy ?_;refine QU ?_;refine AZ ?_;refine JK ?_;refine FZ ?_;refine AA (Yx rfl rfl underlying23 Bz UD) rfl ?_;refine gH ?_;refine Zm ?_;refine ev ?_;refine BH ?_;refine AA (Sl rfl rfl underlying23 Bz UD) rfl ?_;refine Bc ?_;refine ⟨(r4.drop n,on+1,out++[r4.take n]),K_,?_,hR,?_,?_⟩
   ·dsimp only;omega
   ·simp [hol]
   ·dsimp only;omega
abbrev Dn:=List (Int×AB 8)
def Ec(D:Dn):List (Value×C6):=D.map fun p=>(.int .i64 p.1,.bs p.2)
def As(D:Dn)(x:Int):AB 8:=match D.find? (fun p=>p.1==x) with | some p=>p.2 | none=>[]
def EX(D:Dn)(x:Int):Prop:= ∃p∈D,p.1=x
structure aU(D:Dn):Prop where
 dist:D.Pairwise fun p q=>p.1≠q.1
 len:∀p∈D,p.2.length≤100000
theorem aU.keyed{D:Dn}(h:aU D):Keyed (.int .i64) (Ec D):=by
 refine ⟨fun p hp=>?_,?_⟩
 ·obtain ⟨q,_,rfl⟩:=List.mem_map.1 hp
  exact rfl
 ·unfold Ec
  rw [List.pairwise_map]
  refine h.dist.imp fun hne e=>hne (Value.int.inj e).2
theorem oZ{D:Dn}{x:Int}(h:EX D x):(x,As D x)∈D:=by
 unfold As
 cases hf:D.find? (fun p=>p.1==x) with
 |none=>
  obtain ⟨p,hp,rfl⟩:=h
  have:=List.find?_eq_none.1 hf p hp
  simp at this
 |some p=>
  have h1:=List.mem_of_find?_eq_some hf
  have h2:=List.find?_some hf
  simp only [beq_iff_eq] at h2
  subst h2
  exact h1
theorem Ih{D:Dn}{x:Int}(h:EX D x):((.int .i64 x,.bs (As D x)):Value×C6)∈Ec D:=List.mem_map.2 ⟨_,oZ h,rfl⟩
theorem Oz{D:Dn}(hD:aU D)(x:Int):(As D x).length≤100000:=by
 unfold As
 cases hf:D.find? (fun p=>p.1==x) with
 |none=>exact Nat.zero_le _
 |some p=>exact hD.len p (List.mem_of_find?_eq_some hf)
def Jm(l:List (AB 8)):AB 8×Nat:=if jl l≤65536 then (jn l,0) else ([],2)
theorem Rv{l:List (AB 8)}{n:Nat}(h:∀x∈l,x.length≤n)(j:Nat):(Fh l j).length≤n:=by
 unfold Fh
 rw [List.getD_eq_getElem?_getD]
 cases hj:l[j]? with
 |none=>exact Nat.zero_le _
 |some x=>exact h x (List.mem_of_getElem? hj)
theorem pH(l:List (AB 8))(n cap:Nat)(hl:l.length=n)(hn:n≤1099511627776)(hb:∀x∈l,x.length≤100000):Ev prog (.call 11 [.c (.sl 0 0 n cap 1)] [.row false (.ab l)]) (.val (.tup [.c (.bs (Jm l).1),Ae (((Jm l).2:Nat):Int)]) [.row false (.ab l)]):=by
 unfold Jm
 by_cases h:jl l≤65536
 ·rw [if_pos h];exact jp l n cap hl hn h
 ·rw [if_neg h];exact dy l n cap hl hn (fun j=>Nat.le_trans (Rv hb j) D_) O_
theorem rM(D:Dn)(a:List Int)(j:Nat)(hj:j<a.length):(a.take (j+1)).map (As D)=(a.take j).map (As D)++[As D (AX a j)]:=by
 rw [List.take_succ_eq_append_getElem hj,List.map_append]
 simp only [List.map_cons,List.map_nil,AX,List.getD_eq_getElem?_getD,List.getElem?_eq_getElem hj,Option.getD_some]
theorem Wh(k:r)(h:Hid r→g:=by intro h;refine AA (Ai rfl (jd _ _)) rfl ?_;exact h.out):g:=h ⟨k⟩
theorem WM(k:r)(h:Hid r→g:=by intro h;refine AA (B9 rfl rfl ra Dw rfl) rfl ?_;exact h.out):g:=h ⟨k⟩
theorem T4(k:r)(h:Hid r→g:=by intro h;refine AA (Bs rfl rfl) rfl ?_;refine AA (Bs rfl rfl) rfl ?_;exact h.out):g:=h ⟨k⟩
theorem SI(L:List Nd)(es:List (Value×C6))(N:Nat)(D:Dn)(a:List Int)(hD:aU D)(ha:∀x∈a,EX D x)(hlen:a.length≤400):Ev prog (.call 69 [Al 0,.c (.is a)] [.row false (.ac [.ptr 1 0,.mp 2]),.row false (.ac [.sl 3 0 N N 3,.mp 4]),.row false (.mp (Ec D)),.row false (.an L),.row false (.mp es)])
  (.val (.tup [.c (.bs (Jm (a.map (As D))).1),.c (.val (.int .i64 (((Jm (a.map (As D))).2:Nat):Int)))]) [.row false (.ac [.ptr 1 0,.mp 2]),.row false (.ac [.sl 3 0 N N 3,.mp 4]),.row false (.mp (Ec D)),.row false (.an L),.row false (.mp es)]):=by
 generalize hm:a.length=m at*
 refine AG func69 rfl ntmps69 rfl AH ?_;refine AK ?_;refine EV ?_;refine Ab ?_;refine KN ?_;refine RO ?_;refine FP 6 1 (.ab []) rfl rfl AH rfl ?_;refine S_ ?_;refine AU [0,6,9,10,11] (fun (zz:Nat×List (AB 8))=>⟨29,AS [0,6,9,10,11] [Al 0,.c (.sl 5 0 zz.1 zz.1 1),.c (.is a),Ae ((m:Int)),Ae ((zz.1:Int))],[.row false (.ac [.ptr 1 0,.mp 2]),.row false (.ac [.sl 3 0 N N 3,.mp 4]),.row false (.mp (Ec D)),.row false (.an L),.row false (.mp es),.row true (.ab zz.2)]⟩) (fun j=>(j,(a.take j).map (As D))) (m) K_ ?_ ?_
 ·intro j hj
  dsimp only
  have h1:EX D (AX a j):=ha _ (by simp [AX,show j<a.length by omega])
  have h2:((a.take j).map (As D)).length=j:=by simp;omega
  rw [rM D a j O_]
  generalize (a.take j).map (As D)=u at*
  refine PH ?_;refine Nq ?_;refine cm ?_;refine Bc ?_;generalize AX a j=x at*
  refine Ar ?_;refine Ea ?_;refine Wh ?_;refine WM ?_;refine AR ?_;refine Cs (Iq (c:= .bs (As D x)) underlying85 underlying3 rfl rfl rfl hD.keyed (Ih h1)) rfl ?_;refine Zm ?_;refine ev ?_;refine Ad ?_;refine F9 ?_;exact ⟨(j+1,_),K_,rfl⟩
 ·dsimp only
  rw [show a.take m=a by rw [←hm,List.take_length]]
  have h2:(a.map (As D)).length=m:=by simp [hm]
  have h3:∀x∈a.map (As D),x.length≤100000:=fun x hx=>by obtain ⟨y,_,rfl⟩:=List.mem_map.1 hx;exact Oz hD y
  generalize a.map (As D)=u at*
  refine SZ ?_;refine AZ ?_;refine Fb (pH u m m h2 O_ h3) AAE ?_;refine T4 ?_;exact Ct
def OD(X1:AB 8):AB 8:=X1++[0#8]
def E2(b:AB 8):Nat→AB 8
 |0=>b
 |j1+1=>OD (E2 b j1)
@[simp] theorem LC(b:AB 8)(j1:Nat):(E2 b j1).length=b.length+j1:=by
 induction j1 with
 |zero=>(simp [E2, *];done)
 |succ j1 ih=>rw [E2.eq_2,OD];(simp [ih];omega)
def KJ(b:AB 8):AB 8:=(E2 b ((16-b.length%16)%16))
theorem GV(k:r)(h:Hid r→g:=by intro h;refine S_ ?_;refine Aq ?_;refine AA (Af rfl) rfl ?_;refine AA (JL rfl underlying23) rfl ?_;exact h.out):g:=h ⟨k⟩
theorem IM(k:r)(h:Hid r→g:=by intro h;refine AA (EE (b:=0) rfl rfl) rfl ?_;refine AN ?_;refine S_ ?_;refine Aq ?_;refine AA (Af rfl) rfl ?_;exact h.out):g:=h ⟨k⟩
theorem V8(k:r)(h:Hid r→g:=by intro h;refine BE (Xz (l:=[0#8]) underlying23 Gb rfl rfl D_ D_ AH) AM rfl ?_;exact h.out):g:=h ⟨k⟩
theorem FF(k:r)(h:Hid r→g:=by intro h;refine AA (EE (b:=0) rfl rfl) rfl ?_;exact h.out):g:=h ⟨k⟩
theorem Xh(b:AB 8)(n cap:Nat)(hb:b.length=n)(hn:n≤1099511627776):Ev prog (.call 146 [.c (.sl 0 0 n cap 1)] [CM (b)]) (.val (.c (.sl 1 0 (n+(16-n%16)%16) (n+(16-n%16)%16) 1)) [.dead,CM (KJ b)]):=by
 have hP:=Hid.mk (KJ.eq_1 b)
 try simp only [hb] at hP
 refine AG func146 rfl ntmps146 rfl AH ?_;refine AK ?_;refine Ay ?_;refine pM 0 rfl rfl AH rfl ?_;refine S_ ?_;refine AU [0] (fun (zz:Nat×AB 8)=>⟨11,AS [0] [.c (.sl 1 0 (n+zz.1) (n+zz.1) 1)],[.dead,CM (zz.2)]⟩) (fun j1=>(j1,E2 b j1)) ((16-n%16)%16) K_ ?_ ?_
 ·intro j1 hj1
  try dsimp only
  have hX1:(E2 b j1).length=n+j1:=by rw [LC b _];try omega
  rw [E2.eq_2,OD]
  try simp only [hb]
  generalize E2 b j1=X1 at*
  refine GV ?_;refine AA (HM (b:=16) rfl rfl O_ O_) rfl ?_;refine IM ?_;refine V8 ?_;refine Cr ?_;refine Bc ?_;exact ⟨(j1+1,_),K_,rfl⟩
 ·try dsimp only
  have hY2:(E2 b ((16-n%16)%16)).length=n+(16-n%16)%16:=by rw [LC b _];try omega
  generalize E2 b ((16-n%16)%16)=Y2 at*
  refine GV ?_;refine AA (HM (b:=16) rfl rfl O_ O_) rfl ?_;refine FF ?_;refine CT ?_;rw [hP.out]
  exact EZ
@[simp] theorem xu(b:AB 8):(KJ b).length=b.length+(16-b.length%16)%16:=by
 unfold KJ
 (simp [LC, *];done)
attribute [irreducible] KJ
def Da(x:BitVec 32)(k:Int):BitVec 32:=(x<<<((BitVec.ofInt 64 k)&&&31#64).toNat) ||| (x>>>(32#64-((BitVec.ofInt 64 k)&&&31#64)).toNat)
theorem DL(x:BitVec 32)(k:Int):Ev prog (.call 63 [.c (.val (FL x)),Ae k] []) (.val (.c (.val (FL (Da x k)))) []):=by
 have hP:=Hid.mk (Da.eq_1 x k)
 refine AG func63 rfl ntmps63 rfl AH ?_;refine Im ?_;refine AA (F3 rfl underlying3 underlying71 (vN _)) rfl ?_;refine AA (Fo (b:=31#64) rfl rfl) rfl ?_;refine BH ?_;refine AA (ql rfl rfl) rfl ?_;refine FZ ?_;refine AA (aF (a:=32#64) rfl rfl) rfl ?_;refine AA (pr rfl rfl) rfl ?_;refine AA (yS rfl rfl) rfl ?_;refine Ay ?_;rw [hP.out]
 exact EZ
attribute [irreducible] Da
def GS(x:BitVec 64)(k:Int):BitVec 64:=(x<<<((BitVec.ofInt 64 k)&&&63#64).toNat) ||| (x>>>(64#64-((BitVec.ofInt 64 k)&&&63#64)).toNat)
theorem Fx(k:r)(h:Hid r→g:=by intro h;refine AA (Vp rfl rfl) rfl ?_;exact h.out):g:=h ⟨k⟩
theorem FX(x:BitVec 64)(k:Int):Ev prog (.call 171 [.c (.val (BW x)),Ae k] []) (.val (.c (.val (BW (GS x k)))) []):=by
 have hP:=Hid.mk (GS.eq_1 x k)
 refine AG func171 rfl ntmps171 rfl AH ?_;refine Im ?_;refine AA (F3 rfl underlying3 underlying71 (vN _)) rfl ?_;refine AA (Fo (b:=63#64) rfl rfl) rfl ?_;refine BH ?_;refine AA (oT rfl rfl) rfl ?_;refine FZ ?_;refine AA (aF (a:=64#64) rfl rfl) rfl ?_;refine AA (da rfl rfl) rfl ?_;refine Fx ?_;refine Ay ?_;rw [hP.out]
 exact EZ
attribute [irreducible] GS
def Ma(x:AB 32)(a b:Nat):AB 32:=put x a ((nth x a)+(nth x b))
@[simp] theorem dD(x:AB 32)(a b:Nat):(Ma x a b).length=x.length:=by simp [Ma]
def Mv(a d:Nat)(X1:AB 32):AB 32:=put X1 d (Da ((nth X1 d)^^^(nth X1 a)) ((16:Nat):Int))
@[simp] theorem dT(a d:Nat)(X1:AB 32):(Mv a d X1).length=X1.length:=by simp [Mv]
def Nj(c d:Nat)(X2:AB 32):AB 32:=put X2 c ((nth X2 c)+(nth X2 d))
@[simp] theorem dH(c d:Nat)(X2:AB 32):(Nj c d X2).length=X2.length:=by simp [Nj]
def Mf(b c:Nat)(X3:AB 32):AB 32:=put X3 b (Da ((nth X3 b)^^^(nth X3 c)) ((12:Nat):Int))
@[simp] theorem dE(b c:Nat)(X3:AB 32):(Mf b c X3).length=X3.length:=by simp [Mf]
def MP(a b:Nat)(X4:AB 32):AB 32:=put X4 a ((nth X4 a)+(nth X4 b))
@[simp] theorem bx(a b:Nat)(X4:AB 32):(MP a b X4).length=X4.length:=by simp [MP]
def M5(a d:Nat)(X5:AB 32):AB 32:=put X5 d (Da ((nth X5 d)^^^(nth X5 a)) ((8:Nat):Int))
@[simp] theorem bS(a d:Nat)(X5:AB 32):(M5 a d X5).length=X5.length:=by simp [M5]
def MN(c d:Nat)(X6:AB 32):AB 32:=put X6 c ((nth X6 c)+(nth X6 d))
@[simp] theorem de(c d:Nat)(X6:AB 32):(MN c d X6).length=X6.length:=by simp [MN]
def Mw(b c:Nat)(X7:AB 32):AB 32:=put X7 b (Da ((nth X7 b)^^^(nth X7 c)) ((7:Nat):Int))
@[simp] theorem cD(b c:Nat)(X7:AB 32):(Mw b c X7).length=X7.length:=by simp [Mw]
def Bo(x:AB 32)(a b c d:Nat):AB 32:=(Mw b c (MN c d (M5 a d (MP a b (Mf b c (Nj c d (Mv a d (Ma x a b))))))))
abbrev W6(x:List (BitVec 32)):Row:= .row true (.a32 x)
theorem Am{A B:Prop}(a:A)(b:B)(k:r)(h:A→B→Hid r→g:=by intro a b h;refine Io (AY (bs:=[]) a b K_ K_ rfl BT) AM rfl ?_;exact h.out):g:=h a b ⟨k⟩
theorem KT(k:r)(h:Hid r→g:=by intro h;refine Ez 13 mixed K_ rfl rfl rfl ?_;exact h.out):g:=h ⟨k⟩
theorem GX(k:r)(h:Hid r→g:=by intro h;refine AE (HA rfl) rfl ?_;refine AE (AT rfl rfl underlying181 Cd O_) rfl ?_;refine AE (VL rfl rfl aS Dw) rfl ?_;exact h.out):g:=h ⟨k⟩
theorem IQ(k:r)(h:Hid r→g:=by intro h;refine AE (Rf rfl rfl) rfl ?_;exact h.out):g:=h ⟨k⟩
theorem Og(k:r)(h:Hid r→g:=by intro h;refine AE (HA rfl) rfl ?_;refine AE (AT rfl rfl underlying181 Cd O_) rfl ?_;exact h.out):g:=h ⟨k⟩
theorem LI(k:r)(h:Hid r→g:=by intro h;refine Bn ?_;refine Ls rfl rfl rfl Cd Dw AM ?_;exact h.out):g:=h ⟨k⟩
theorem OF(k:r)(h:Hid r→g:=by intro h;refine Ez 16 mixed K_ rfl rfl rfl ?_;exact h.out):g:=h ⟨k⟩
theorem Kk(x:AB 32)(a b c d:Nat)(hx:x.length=16)(ha:a≤1099511627776)(hb:b≤1099511627776)(hc:c≤1099511627776)(hd:d≤1099511627776)(la:a<16)(lb:b<16)(lc:c<16)(ld:d<16):Ev prog (.call 149 [Al 0,Ae ((a:Nat):Int),Ae ((b:Nat):Int),Ae ((c:Nat):Int),Ae ((d:Nat):Int)] [W6 (x)]) (.val (.tup []) [W6 (Bo x a b c d)]):=by
 have hP_quar:Hid (Bo x a b c d=(Mw b c (MN c d (M5 a d (MP a b (Mf b c (Nj c d (Mv a d (Ma x a b))))))))):=⟨rfl⟩
 refine AG func149 rfl ntmps149 rfl AH ?_;refine S_ ?_;refine KT ?_;refine Bt ?_;refine GX ?_;refine Bt ?_;refine GX ?_;refine IQ ?_;refine Og ?_;refine LI ?_;refine AN ?_;rw [show (put x a ((nth x a)+(nth x b)))=Ma x a b from rfl]
 have hX1:(Ma x a b).length=16:=An
 generalize Ma x a b=X1 at*
 refine S_ ?_;refine OF ?_;refine Bt ?_;refine Bt ?_;refine GX ?_;refine Bt ?_;refine GX ?_;refine AE (Pd rfl rfl) rfl ?_;refine Am (DL ((nth X1 d)^^^(nth X1 a)) ((16:Nat):Int)) Ku ?_;refine Og ?_;refine LI ?_;refine AN ?_;rw [show (put X1 d (Da ((nth X1 d)^^^(nth X1 a)) ((16:Nat):Int)))=Mv a d X1 from rfl]
 have hX2:(Mv a d X1).length=16:=An
 generalize Mv a d X1=X2 at*
 refine S_ ?_;refine KT ?_;refine Bt ?_;refine GX ?_;refine Bt ?_;refine GX ?_;refine IQ ?_;refine Og ?_;refine LI ?_;refine AN ?_;rw [show (put X2 c ((nth X2 c)+(nth X2 d)))=Nj c d X2 from rfl]
 have hX3:(Nj c d X2).length=16:=An
 generalize Nj c d X2=X3 at*
 refine S_ ?_;refine OF ?_;refine Bt ?_;refine Bt ?_;refine GX ?_;refine Bt ?_;refine GX ?_;refine AE (Pd rfl rfl) rfl ?_;refine Am (DL ((nth X3 b)^^^(nth X3 c)) ((12:Nat):Int)) Ku ?_;refine Og ?_;refine LI ?_;refine AN ?_;rw [show (put X3 b (Da ((nth X3 b)^^^(nth X3 c)) ((12:Nat):Int)))=Mf b c X3 from rfl]
 have hX4:(Mf b c X3).length=16:=An
 generalize Mf b c X3=X4 at*
 refine S_ ?_;refine KT ?_;refine Bt ?_;refine GX ?_;refine Bt ?_;refine GX ?_;refine IQ ?_;refine Og ?_;refine LI ?_;refine AN ?_;rw [show (put X4 a ((nth X4 a)+(nth X4 b)))=MP a b X4 from rfl]
 have hX5:(MP a b X4).length=16:=An
 generalize MP a b X4=X5 at*
 refine S_ ?_;refine OF ?_;refine Bt ?_;refine Bt ?_;refine GX ?_;refine Bt ?_;refine GX ?_;refine AE (Pd rfl rfl) rfl ?_;refine Am (DL ((nth X5 d)^^^(nth X5 a)) ((8:Nat):Int)) Ku ?_;refine Og ?_;refine LI ?_;refine AN ?_;rw [show (put X5 d (Da ((nth X5 d)^^^(nth X5 a)) ((8:Nat):Int)))=M5 a d X5 from rfl]
 have hX6:(M5 a d X5).length=16:=An
 generalize M5 a d X5=X6 at*
 refine S_ ?_;refine KT ?_;refine Bt ?_;refine GX ?_;refine Bt ?_;refine GX ?_;refine IQ ?_;refine Og ?_;refine LI ?_;refine AN ?_;rw [show (put X6 c ((nth X6 c)+(nth X6 d)))=MN c d X6 from rfl]
 have hX7:(MN c d X6).length=16:=An
 generalize MN c d X6=X7 at*
 refine S_ ?_;refine OF ?_;refine Bt ?_;refine Bt ?_;refine GX ?_;refine Bt ?_;refine GX ?_;refine AE (Pd rfl rfl) rfl ?_;refine Am (DL ((nth X7 b)^^^(nth X7 c)) ((7:Nat):Int)) Ku ?_;refine Og ?_;refine LI ?_;refine AN ?_;rw [show (put X7 b (Da ((nth X7 b)^^^(nth X7 c)) ((7:Nat):Int)))=Mw b c X7 from rfl]
 have hX8:(Mw b c X7).length=16:=An
 generalize Mw b c X7=X8 at*
 refine S_ ?_;rw [hP_quar.out]
 exact wl (by (exact .inr rfl)) (by (kernel_rfl))
@[simp] theorem AAk(x:AB 32)(a b c d:Nat):(Bo x a b c d).length=x.length:=by
 unfold Bo
 (simp [dD,dT,dH,dE,bx,bS,de,cD, *];done)
attribute [irreducible] Bo
def WP(b:AB 8)(o:Nat)(X1:BitVec 64)(j3:Nat):BitVec 64:=X1 ||| (((nth b (o+j3)).setWidth 64)<<<(8*j3))
def L0(b:AB 8)(o:Nat):Nat→BitVec 64
 |0=>0#64
 |j3+1=>WP b o (L0 b o j3) j3
def bJ(b:AB 8)(o n:Nat):BitVec 64:=(L0 b o n)
abbrev Bw(x:List (BitVec 8)):Row:= .row false (.a8 x)
theorem CV(k:r)(h:Hid r→g:=by intro h;refine AA (JL rfl underlying23) rfl ?_;exact h.out):g:=h ⟨k⟩
theorem gR(k:r)(h:Hid r→g:=by intro h;refine AA (Yj rfl rfl underlying23 Bz O_) rfl ?_;exact h.out):g:=h ⟨k⟩
theorem GZ(k:r)(h:Hid r→g:=by intro h;refine AA (Za rfl rfl bZ Dw) rfl ?_;exact h.out):g:=h ⟨k⟩
theorem gA(k:r)(h:Hid r→g:=by intro h;refine AA (F3 rfl underlying5 underlying70 (uu _)) rfl ?_;exact h.out):g:=h ⟨k⟩
theorem cV(b:AB 8)(o n cap:Nat)(hb:o+n≤b.length)(hn:n≤8796093022208):Ev prog (.call 148 [.c (.sl 0 o n cap 1)] [Bw (b)]) (.val (.c (.val (BW (bJ b o n)))) [Bw (b)]):=by
 have hP:=Hid.mk (bJ.eq_1 b o n)
 refine AG func148 rfl ntmps148 rfl AH ?_;refine QM ?_;refine Ab ?_;refine CV ?_;refine RO ?_;refine AU [3,6,7,8] (fun (zz:Nat×BitVec 64)=>⟨22,AS [3,6,7,8] [.c (.val (BW (zz.2))),.c (.sl 0 o n cap 1),Ae (((n:Nat):Int)),Ae (((zz.1:Nat):Int))],[Bw (b)]⟩) (fun j3=>(j3,L0 b o j3)) (n) K_ ?_ ?_
 ·intro j3 hj3
  try dsimp only
  rw [L0.eq_2,WP]
  generalize L0 b o j3=X1 at*
  refine SZ ?_;refine AZ ?_;refine gR ?_;refine GZ ?_;refine G4 ?_;refine BH ?_;refine gA ?_;refine QZ ?_;refine AA (CA rfl rfl) rfl ?_;refine Fx ?_;refine Ad ?_;refine F9 ?_;exact ⟨(j3+1,_),K_,rfl⟩
 ·try dsimp only
  generalize L0 b o n=Y2 at*
  refine SZ ?_;refine CT ?_;rw [hP.out]
  exact EZ
attribute [irreducible] bJ
def NM(key:AB 8)(X1:AB 32)(j3:Nat):AB 32:=put X1 (4+j3) ((bJ key (4*j3) (((4*j3)+4)-(4*j3))).setWidth 32)
def DQ(key:AB 8):Nat→AB 32
 |0=>put (put (put (put (OJ 16) 0 1634760805#32) 1 857760878#32) 2 2036477234#32) 3 1797285236#32
 |j3+1=>NM key (DQ key j3) j3
@[simp] theorem Ke(key:AB 8)(j3:Nat):(DQ key j3).length=16:=by
 induction j3 with
 |zero=>(simp [DQ, *];done)
 |succ j3 ih=>rw [DQ.eq_2,NM];(simp [ih];done)
def NA(nonce:AB 8)(X3:AB 32)(j9:Nat):AB 32:=put X3 (13+j9) ((bJ nonce (4*j9) (((4*j9)+4)-(4*j9))).setWidth 32)
def DR(counter:BitVec 32)(nonce:AB 8)(Y2:AB 32):Nat→AB 32
 |0=>put Y2 12 counter
 |j9+1=>NA nonce (DR counter nonce Y2 j9) j9
theorem Kc(counter:BitVec 32)(nonce:AB 8)(Y2:AB 32)(hY2:Y2.length=16)(j9:Nat):(DR counter nonce Y2 j9).length=16:=by
 induction j9 with
 |zero=>(simp [DR, *];done)
 |succ j9 ih=>rw [DR.eq_2,NA];(simp [ih];done)
def LA(X5:AB 32):AB 32:=Bo (Bo (Bo (Bo (Bo (Bo (Bo (Bo X5 0 4 8 12) 1 5 9 13) 2 6 10 14) 3 7 11 15) 0 5 10 15) 1 6 11 12) 2 7 8 13) 3 4 9 14
def C9(Y4:AB 32):Nat→AB 32
 |0=>Y4
 |j15+1=>LA (C9 Y4 j15)
theorem JC(Y4:AB 32)(hY4:Y4.length=16)(j15:Nat):(C9 Y4 j15).length=16:=by
 induction j15 with
 |zero=>(simp [C9, *];done)
 |succ j15 ih=>rw [C9.eq_2,LA];(simp [ih];done)
def LZ(Y4 Y14:AB 32)(X15:AB 8)(j27:Nat):AB 8:=put X15 j27 ((((nth Y14 (j27/4))+(nth Y4 (j27/4)))>>>(8*(j27%4))).setWidth 8)
def DA(Y4 Y14:AB 32):Nat→AB 8
 |0=>Ag 64
 |j27+1=>LZ Y4 Y14 (DA Y4 Y14 j27) j27
@[simp] theorem I9(Y4 Y14:AB 32)(j27:Nat):(DA Y4 Y14 j27).length=64:=by
 induction j27 with
 |zero=>(simp [DA, *];done)
 |succ j27 ih=>rw [DA.eq_2,LZ];(simp [ih];done)
def D5(key:AB 8)(counter:BitVec 32)(nonce:AB 8):AB 8:=(DA (DR counter nonce (DQ key 8) 3) (C9 (DR counter nonce (DQ key 8) 3) 10) 64)
abbrev B4(x:List (BitVec 8)):AV:= .agg (.a8 x)
theorem TD{A B:Prop}(a:A)(b:B)(k:r)(h:A→B→Hid r→g:=by intro a b h;refine Bh (AY (bs:=[0]) a b K_ K_ rfl BT) AM rfl ?_;exact h.out):g:=h a b ⟨k⟩
theorem Ym{A B:Prop}(a:A)(b:B)(k:r)(h:A→B→Hid r→g:=by intro a b h;refine Cs (DG (bs:=[2]) a b K_ rfl rfl BT AM) rfl ?_;exact h.out):g:=h a b ⟨k⟩
theorem BY(k:r)(h:Hid r→g:=by intro h;refine S_ ?_;refine Aq ?_;refine BE (Xk yy AH) AM rfl ?_;refine BE (Xk yy AH) AM rfl ?_;exact h.out):g:=h ⟨k⟩
theorem J0(k:r)(h:Hid r→g:=by intro h;refine BE (BO xl AH) AM rfl ?_;exact h.out):g:=h ⟨k⟩
theorem Dd(k:r)(h:Hid r→g:=by intro h;refine AN ?_;refine S_ ?_;refine Aq ?_;refine AA (Af rfl) rfl ?_;refine AN ?_;refine S_ ?_;exact h.out):g:=h ⟨k⟩
theorem TH(k:r)(h:Hid r→g:=by intro h;refine AA (K4 (a:=4) rfl rfl O_) rfl ?_;exact h.out):g:=h ⟨k⟩
theorem eP(k:r)(h:Hid r→g:=by intro h;refine AA (F3 rfl underlying70 underlying106 (yQ _)) rfl ?_;exact h.out):g:=h ⟨k⟩
theorem NI(k:r)(h:Hid r→g:=by intro h;refine AA (BA (b:=64) rfl rfl) rfl ?_;exact h.out):g:=h ⟨k⟩
theorem G0(k:r)(h:Hid r→g:=by intro h;refine AE (VL rfl rfl aS Dw) rfl ?_;exact h.out):g:=h ⟨k⟩
theorem Ah(k:r)(h:Hid r→g:=by intro h;refine AE (Af rfl) rfl ?_;exact h.out):g:=h ⟨k⟩
theorem C3(k:r)(h:Hid r→g:=by intro h;refine bE rfl rfl rfl Bz Dw AM ?_;exact h.out):g:=h ⟨k⟩
theorem Ts(k:r)(h:Hid r→g:=by intro h;refine AA (BA (a:=64) (b:=64) rfl rfl) rfl ?_;exact h.out):g:=h ⟨k⟩
theorem fQ(k:r)(h:Hid r→g:=by intro h;refine AA (Bj rfl rfl QC Qu C1 D_) rfl ?_;exact h.out):g:=h ⟨k⟩
theorem Md(k:r)(h:Hid r→g:=by intro h;refine Bm rfl rfl rfl rfl Qu C1 C1 AM ?_;exact h.out):g:=h ⟨k⟩
theorem Vf(key:AB 8)(counter:BitVec 32)(nonce:AB 8)(hkey:key.length=32)(hnonce:nonce.length=12):Ev prog (.call 109 [B4 (key),.c (.val (FL counter)),B4 (nonce)] []) (.val (B4 (D5 key counter nonce)) []):=by
 have hP:=Hid.mk (D5.eq_1 key counter nonce)
 refine AG func109 rfl ntmps109 rfl AH ?_;refine BY ?_;refine J0 ?_;refine AQ ?_;refine AA (ss (l:=(put (put (put (put (OJ 16) 0 (1634760805#32)) 1 (857760878#32)) 2 (2036477234#32)) 3 (1797285236#32))) wC underlying181 Cd rfl rfl) rfl ?_;refine BE (BO qr AH) AM rfl ?_;refine Bm rfl rfl rfl rfl eG C1 C1 AM ?_;refine Dd ?_;refine AU [1,3,5,6,7,14] (fun (zz:Nat×AB 32)=>⟨79,AS [1,3,5,6,7,14] [.c (.val (FL (counter))),Al 0,Al 1,Al 2,Al 3,Ae (((zz.1:Nat):Int))],[CM (key),CM (nonce),CM (Ag 64),W6 (zz.2)]⟩) (fun j3=>(j3,DQ key j3)) (8) K_ ?_ ?_
 ·intro j3 hj3
  try dsimp only
  have hX1:(DQ key j3).length=16:=by rw [Ke key _];try omega
  rw [DQ.eq_2,NM]
  generalize DQ key j3=X1 at*
  refine AK ?_;refine Qm ?_;refine AZ ?_;refine Ab ?_;refine aL ?_;refine AR ?_;refine TH ?_;refine AR ?_;refine TH ?_;refine Ql ?_;refine AA (Gz rfl underlying37 Bz rfl rfl rfl O_ O_ Q2 rfl rfl) rfl ?_;refine TD (cV key (4*j3) (((4*j3)+4)-(4*j3)) (32-(4*j3)) AD AD) nN ?_;refine eP ?_;refine AA (AT rfl rfl underlying181 Cd O_) rfl ?_;refine Ls rfl rfl rfl Cd Dw AM ?_;refine D7 ?_;exact ⟨(j3+1,_),K_,rfl⟩
 ·try dsimp only
  have hY2:(DQ key 8).length=16:=by rw [Ke key _];try omega
  generalize DQ key 8=Y2 at*
  refine AK ?_;refine VR ?_;refine AZ ?_;refine AA (AT (j:=12) rfl rfl underlying181 Cd O_) rfl ?_;refine Ls rfl rfl rfl Cd Dw AM ?_;refine Dd ?_;refine AU [5,6,7,31] (fun (zz:Nat×AB 32)=>⟨79,AS [5,6,7,31] [Al 0,Al 1,Al 2,Ae (((zz.1:Nat):Int))],[CM (nonce),CM (Ag 64),W6 (zz.2)]⟩) (fun j9=>(j9,DR counter nonce Y2 j9)) (3) K_ ?_ ?_
  ·intro j9 hj9
   try dsimp only
   have hX3:(DR counter nonce Y2 j9).length=16:=by rw [Kc counter nonce Y2 hY2 _];try omega
   rw [DR.eq_2,NA]
   generalize DR counter nonce Y2 j9=X3 at*
   refine AK ?_;refine AA (BA (b:=3) rfl rfl) rfl ?_;refine AZ ?_;refine Ab ?_;refine AA (EH (a:=13) rfl rfl O_) rfl ?_;refine AR ?_;refine TH ?_;refine AR ?_;refine TH ?_;refine Ql ?_;refine AA (Gz rfl underlying98 Bz rfl rfl rfl O_ O_ Q2 rfl rfl) rfl ?_;refine TD (cV nonce (4*j9) (((4*j9)+4)-(4*j9)) (12-(4*j9)) AD AD) nN ?_;refine eP ?_;refine AA (AT rfl rfl underlying181 Cd O_) rfl ?_;refine Ls rfl rfl rfl Cd Dw AM ?_;refine D7 ?_;exact ⟨(j9+1,_),K_,rfl⟩
  ·try dsimp only
   have hY4:(DR counter nonce Y2 3).length=16:=by rw [Kc counter nonce Y2 hY2 _];try omega
   generalize DR counter nonce Y2 3=Y4 at*
   refine AK ?_;refine AA (BA (a:=3) (b:=3) rfl rfl) rfl ?_;refine AQ ?_;refine AA (Bj rfl rfl rx eG C1 D_) rfl ?_;refine BE (BO qr AH) AM rfl ?_;refine Bm rfl rfl rfl rfl eG C1 C1 AM ?_;refine Dd ?_;refine AU [6,7,10,47] (fun (zz:Nat×AB 32)=>⟨79,AS [6,7,10,47] [Al 0,Al 1,Al 2,Ae (((zz.1:Nat):Int))],[CM (Ag 64),W6 (Y4),W6 (zz.2)]⟩) (fun j15=>(j15,C9 Y4 j15)) (10) K_ ?_ ?_
   ·intro j15 hj15
    try dsimp only
    have hX5:(C9 Y4 j15).length=16:=by rw [JC Y4 hY4 _];try omega
    rw [C9.eq_2,LA]
    generalize C9 Y4 j15=X5 at*
    refine AK ?_;refine AA (BA (b:=10) rfl rfl) rfl ?_;refine AN ?_;have hQ6:(Bo X5 0 4 8 12).length=16:=An
    refine AK ?_;refine Ym (Kk X5 0 4 8 12 AD AD AD AD AD AD AD AD AD) Od ?_;refine AN ?_;have hQ7:(Bo (Bo X5 0 4 8 12) 1 5 9 13).length=16:=An
    refine AK ?_;refine Ym (Kk (Bo X5 0 4 8 12) 1 5 9 13 AD AD AD AD AD AD AD AD AD) Od ?_;refine AN ?_;have hQ8:(Bo (Bo (Bo X5 0 4 8 12) 1 5 9 13) 2 6 10 14).length=16:=An
    refine AK ?_;refine Ym (Kk (Bo (Bo X5 0 4 8 12) 1 5 9 13) 2 6 10 14 AD AD AD AD AD AD AD AD AD) Od ?_;refine AN ?_;have hQ9:(Bo (Bo (Bo (Bo X5 0 4 8 12) 1 5 9 13) 2 6 10 14) 3 7 11 15).length=16:=An
    refine AK ?_;refine Ym (Kk (Bo (Bo (Bo X5 0 4 8 12) 1 5 9 13) 2 6 10 14) 3 7 11 15 AD AD AD AD AD AD AD AD AD) Od ?_;refine AN ?_;have hQ10:(Bo (Bo (Bo (Bo (Bo X5 0 4 8 12) 1 5 9 13) 2 6 10 14) 3 7 11 15) 0 5 10 15).length=16:=An
    refine AK ?_;refine Ym (Kk (Bo (Bo (Bo (Bo X5 0 4 8 12) 1 5 9 13) 2 6 10 14) 3 7 11 15) 0 5 10 15 AD AD AD AD AD AD AD AD AD) Od ?_;refine AN ?_;have hQ11:(Bo (Bo (Bo (Bo (Bo (Bo X5 0 4 8 12) 1 5 9 13) 2 6 10 14) 3 7 11 15) 0 5 10 15) 1 6 11 12).length=16:=An
    refine AK ?_;refine Ym (Kk (Bo (Bo (Bo (Bo (Bo X5 0 4 8 12) 1 5 9 13) 2 6 10 14) 3 7 11 15) 0 5 10 15) 1 6 11 12 AD AD AD AD AD AD AD AD AD) Od ?_;refine AN ?_;have hQ12:(Bo (Bo (Bo (Bo (Bo (Bo (Bo X5 0 4 8 12) 1 5 9 13) 2 6 10 14) 3 7 11 15) 0 5 10 15) 1 6 11 12) 2 7 8 13).length=16:=An
    refine AK ?_;refine Ym (Kk (Bo (Bo (Bo (Bo (Bo (Bo X5 0 4 8 12) 1 5 9 13) 2 6 10 14) 3 7 11 15) 0 5 10 15) 1 6 11 12) 2 7 8 13 AD AD AD AD AD AD AD AD AD) Od ?_;refine AN ?_;have hQ13:(Bo (Bo (Bo (Bo (Bo (Bo (Bo (Bo X5 0 4 8 12) 1 5 9 13) 2 6 10 14) 3 7 11 15) 0 5 10 15) 1 6 11 12) 2 7 8 13) 3 4 9 14).length=16:=An
    refine AK ?_;refine Ym (Kk (Bo (Bo (Bo (Bo (Bo (Bo (Bo X5 0 4 8 12) 1 5 9 13) 2 6 10 14) 3 7 11 15) 0 5 10 15) 1 6 11 12) 2 7 8 13) 3 4 9 14 AD AD AD AD AD AD AD AD AD) Od ?_;refine D7 ?_;exact ⟨(j15+1,_),K_,rfl⟩
   ·try dsimp only
    have hY14:(C9 Y4 10).length=16:=by rw [JC Y4 hY4 _];try omega
    generalize C9 Y4 10=Y14 at*
    refine AK ?_;refine AA (BA (a:=10) (b:=10) rfl rfl) rfl ?_;refine AQ ?_;refine J0 ?_;refine Dd ?_;refine AU [6,7,10,11,58] (fun (zz:Nat×AB 8)=>⟨79,AS [6,7,10,11,58] [Al 0,Al 1,Al 2,Al 3,Ae (((zz.1:Nat):Int))],[CM (Ag 64),W6 (Y4),W6 (Y14),CM (zz.2)]⟩) (fun j27=>(j27,DA Y4 Y14 j27)) (64) K_ ?_ ?_
    ·intro j27 hj27
     try dsimp only
     have hX15:(DA Y4 Y14 j27).length=64:=by rw [I9 Y4 Y14 _];try omega
     rw [DA.eq_2,LZ]
     generalize DA Y4 Y14 j27=X15 at*
     refine AK ?_;refine NI ?_;refine CT ?_;refine OF ?_;refine Bt ?_;refine AE (Sq (b:=4) rfl rfl O_ O_) rfl ?_;refine AE (AT rfl rfl underlying181 Cd O_) rfl ?_;refine G0 ?_;refine Ah ?_;refine AE (Sq (b:=4) rfl rfl O_ O_) rfl ?_;refine AE (AT rfl rfl underlying181 Cd O_) rfl ?_;refine G0 ?_;refine IQ ?_;refine Ah ?_;refine AE (HM (b:=4) rfl rfl O_ O_) rfl ?_;refine AE (K4 (a:=8) rfl rfl O_) rfl ?_;refine AE (SM rfl rfl) rfl ?_;refine AE (F3 rfl underlying106 underlying5 (vM _)) rfl ?_;refine AE (AT rfl rfl underlying105 Bz O_) rfl ?_;refine Bn ?_;refine C3 ?_;refine D7 ?_;exact ⟨(j27+1,_),K_,rfl⟩
    ·try dsimp only
     have hY16:(DA Y4 Y14 64).length=64:=by rw [I9 Y4 Y14 _];try omega
     generalize DA Y4 Y14 64=Y16 at*
     refine AK ?_;refine Ts ?_;refine AQ ?_;refine fQ ?_;refine Md ?_;refine A6 ?_;rw [hP.out]
     exact gw (JR rfl rfl QC Qu C1 D_) (by (kernel_rfl))
@[simp] theorem ub(key:AB 8)(counter:BitVec 32)(nonce:AB 8)(_hkey:key.length=32)(_hnonce:nonce.length=12):(D5 key counter nonce).length=64:=by
 unfold D5
 (simp [I9, *];done)
attribute [irreducible] D5
def Nb(key:AB 8)(counter:BitVec 32)(nonce:AB 8)(j3:Nat)(X3:AB 8)(j7:Nat):AB 8:=put X3 ((64*j3)+j7) ((nth X3 ((64*j3)+j7))^^^(nth (D5 key (counter+(BitVec.ofNat 32 ((64*j3)/64))) nonce) (((64*j3)+j7)-(64*j3))))
def El(key:AB 8)(counter:BitVec 32)(nonce X1:AB 8)(j3:Nat):Nat→AB 8
 |0=>X1
 |j7+1=>Nb key counter nonce j3 (El key counter nonce X1 j3 j7) j7
@[simp] theorem Jf(key:AB 8)(counter:BitVec 32)(nonce X1:AB 8)(j3 j7:Nat):(El key counter nonce X1 j3 j7).length=X1.length:=by
 induction j7 with
 |zero=>(simp [El, *];done)
 |succ j7 ih=>rw [El.eq_2,Nb];(simp [ih];done)
def M3(key:AB 8)(counter:BitVec 32)(nonce t X1:AB 8)(j3:Nat):AB 8:=(El key counter nonce X1 j3 (min (64*j3+64) t.length-64*j3))
def Ew(key:AB 8)(counter:BitVec 32)(nonce t:AB 8):Nat→AB 8
 |0=>t
 |j3+1=>M3 key counter nonce t (Ew key counter nonce t j3) j3
theorem HN(key:AB 8)(counter:BitVec 32)(nonce t:AB 8)(_hkey:key.length=32)(_hnonce:nonce.length=12)(j3:Nat):(Ew key counter nonce t j3).length=t.length:=by
 induction j3 with
 |zero=>(simp [Ew, *];done)
 |succ j3 ih=>rw [Ew.eq_2,M3];(simp [ih];done)
def G6(key:AB 8)(counter:BitVec 32)(nonce t:AB 8):AB 8:=(Ew key counter nonce t ((t.length+63)/64))
theorem A7{A B:Prop}(a:A)(b:B)(k:r)(h:A→B→Hid r→g:=by intro a b h;refine Bh (AY (bs:=[]) a b K_ K_ rfl BT) AM rfl ?_;exact h.out):g:=h a b ⟨k⟩
theorem Tw(k:r)(h:Hid r→g:=by intro h;refine BE (qY rfl rfl rfl underlying23 underlying23 Gb UD O_ AH) AM rfl ?_;exact h.out):g:=h ⟨k⟩
theorem CC(k:r)(h:Hid r→g:=by intro h;refine S_ ?_;refine Aq ?_;refine AA (Bj rfl rfl Ld J9 C1 D_) rfl ?_;exact h.out):g:=h ⟨k⟩
theorem RH(k:r)(h:Hid r→g:=by intro h;refine AA (Bj rfl rfl eS mr C1 D_) rfl ?_;exact h.out):g:=h ⟨k⟩
theorem Oj(k:r)(h:Hid r→g:=by intro h;refine Ez 11 mixed K_ rfl rfl rfl ?_;exact h.out):g:=h ⟨k⟩
theorem fw(k:r)(h:Hid r→g:=by intro h;refine AE (DI rfl rfl underlying23 Bz O_) rfl ?_;exact h.out):g:=h ⟨k⟩
theorem LD(k:r)(h:Hid r→g:=by intro h;refine AE (Za rfl rfl bZ Dw) rfl ?_;exact h.out):g:=h ⟨k⟩
theorem bP(key:AB 8)(counter:BitVec 32)(nonce b:AB 8)(o n cap:Nat)(hkey:key.length=32)(hnonce:nonce.length=12)(hb:o+n≤b.length)(hn:n≤1099511627776):Ev prog (.call 76 [B4 (key),.c (.val (FL counter)),B4 (nonce),.c (.sl 0 o n cap 1)] [Bw (b)]) (.val (.c (.sl 1 0 n n 1)) [Bw (b),CM (G6 key counter nonce (cut b o n))]):=by
 have hP:=Hid.mk (G6.eq_1 key counter nonce (cut b o n))
 have ht:(cut b o n).length=n:=by rw [Ck];omega
 try simp only [ht] at hP
 refine AG func76 rfl ntmps76 rfl AH ?_;refine BY ?_;refine Ad ?_;refine JK ?_;refine AR ?_;refine Tw ?_;refine Ad ?_;refine Ay ?_;refine AU [1,4,6,9,10] (fun (zz:Nat×AB 8)=>⟨52,AS [1,4,6,9,10] [.c (.val (FL (counter))),Al 1,Al 2,.c (.sl 3 0 n n 1),Ae (((64*zz.1:Nat):Int))],[Bw (b),CM (key),CM (nonce),CM (zz.2)]⟩) (fun j3=>(j3,Ew key counter nonce (cut b o n) j3)) ((n+63)/64) K_ ?_ ?_
 ·intro j3 hj3
  try dsimp only
  have hX1:(Ew key counter nonce (cut b o n) j3).length=n:=by rw [HN key counter nonce (cut b o n) hkey hnonce _];try omega
  rw [Ew.eq_2,M3]
  try simp only [ht]
  generalize Ew key counter nonce (cut b o n) j3=X1 at*
  refine Ar ?_;refine CV ?_;refine DF ?_;refine AN ?_;have hQ2:(D5 key (counter+(BitVec.ofNat 32 ((64*j3)/64))) nonce).length=64:=An
  refine CC ?_;refine FZ ?_;refine AA (Sq (b:=64) rfl rfl O_ O_) rfl ?_;refine AA (F3 rfl underlying3 underlying106 (AAL _)) rfl ?_;refine AA (Rf rfl rfl) rfl ?_;refine RH ?_;refine A7 (Vf key (counter+(BitVec.ofNat 32 ((64*j3)/64))) nonce AD AD) rA ?_;refine J0 ?_;refine Md ?_;refine CT ?_;refine AU [1,4,6,9,10,11,12] (fun (zz:Nat×AB 8)=>⟨52,AS [1,4,6,9,10,11,12] [.c (.val (FL (counter))),Al 1,Al 2,.c (.sl 3 0 n n 1),Ae (((64*j3:Nat):Int)),Al 4,Ae ((((64*j3)+zz.1:Nat):Int))],[Bw (b),CM (key),CM (nonce),CM (zz.2),CM (D5 key (counter+(BitVec.ofNat 32 ((64*j3)/64))) nonce)]⟩) (fun j7=>(j7,El key counter nonce X1 j3 j7)) (min (64*j3+64) n-64*j3) K_ ?_ ?_
  ·intro j7 hj7
   try dsimp only
   have hX3:(El key counter nonce X1 j3 j7).length=n:=by rw [Jf key counter nonce X1 j3 _];try omega
   rw [El.eq_2,Nb]
   try simp only [ht,hX1]
   generalize El key counter nonce X1 j3 j7=X3 at*
   refine Ar ?_;refine AA (EH (b:=64) rfl rfl O_) rfl ?_;refine LG ?_;refine AA (aW rfl rfl) rfl ?_;refine SN ?_;refine Oj ?_;refine Bt ?_;refine fw ?_;refine LD ?_;refine Bt ?_;refine AE (Fg rfl rfl O_ O_) rfl ?_;refine AE (AT rfl rfl underlying105 Bz O_) rfl ?_;refine LD ?_;refine AE (V6 rfl rfl) rfl ?_;refine fw ?_;refine Bn ?_;refine C3 ?_;refine AZ ?_;refine Cl ?_;exact ⟨(j7+1,_),K_,rfl⟩
  ·try dsimp only
   have hY4:(El key counter nonce X1 j3 (min (64*j3+64) n-64*j3)).length=n:=by rw [Jf key counter nonce X1 j3 _];try omega
   generalize El key counter nonce X1 j3 (min (64*j3+64) n-64*j3)=Y4 at*
   refine Ar ?_;refine AA (EH (b:=64) rfl rfl O_) rfl ?_;refine LG ?_;refine AA (aW rfl rfl) rfl ?_;refine DF ?_;refine AZ ?_;refine AA (EH (b:=64) rfl rfl O_) rfl ?_;refine Bc ?_;exact ⟨(j3+1,_),K_,rfl⟩
 ·try dsimp only
  have hY5:(Ew key counter nonce (cut b o n) ((n+63)/64)).length=n:=by rw [HN key counter nonce (cut b o n) hkey hnonce _];try omega
  generalize Ew key counter nonce (cut b o n) ((n+63)/64)=Y5 at*
  refine Ar ?_;refine CV ?_;refine DF ?_;refine CT ?_;rw [hP.out]
  exact EZ
theorem kK(key:AB 8)(counter:BitVec 32)(nonce b:AB 8)(n cap:Nat)(hkey:key.length=32)(hnonce:nonce.length=12)(hb:b.length=n)(hn:n≤1099511627776):Ev prog (.call 76 [B4 (key),.c (.val (FL counter)),B4 (nonce),.c (.sl 0 0 n cap 1)] [Bw (b)]) (.val (.c (.sl 1 0 n n 1)) [Bw (b),CM (G6 key counter nonce b)]):=by
 have h_:=bP key counter nonce b 0 n cap hkey hnonce O_ hn
 rw [HL hb] at h_
 exact h_
@[simp] theorem Jj(key:AB 8)(counter:BitVec 32)(nonce t:AB 8)(hkey:key.length=32)(hnonce:nonce.length=12):(G6 key counter nonce t).length=t.length:=by
 unfold G6
 (simp [HN, *];done)
attribute [irreducible] G6
def Jz(r:AB 8)(o:Nat):Nat→BitVec 64
 |0=>0#64
 |k+1=>Jz r o k ||| ((nth r (o+k)).setWidth 64<<<(8*k))
theorem B6(h:g:=by refine AA (Ac rfl) rfl ?_;refine AN ?_;refine S_ ?_;exact gw (EG rfl) (by (kernel_rfl))):g:=h
theorem ez(r:AB 8)(o n cap:Nat)(hl:o+n≤r.length)(hn:n≤65536):Ev prog (.call 196 [.c (.sl 0 o n cap 1)] [Bw r]) (.val (.c (.val (BW (Jz r o n)))) [Bw r]):=by
 refine AG func196 rfl ntmps196 rfl AH ?_;refine QM ?_;refine Ab ?_;refine CV ?_;refine RO ?_;refine U9 [2,3,6,7,8] rfl ?_;refine fE [2,3,6,7,8] (fun (x:Nat×BitVec 64)=>⟨22,AS [2,3,6,7,8] [.c (.val (.int .u64 0)),.c (.val (BW x.2)),.c (.sl 0 o n cap 1),.c (.val (.int .i64 n)),.c (.val (.int .i64 x.1))],[.row false (.a8 r)]⟩) (fun j=>(j,Jz r o j)) n rfl ?r ?e
 case r=>
  intro j hj
  simp only [Jz]
  refine SZ ?_;refine AZ ?_;refine gR ?_;refine GZ ?_;refine G4 ?_;refine BH ?_;refine gA ?_;refine QZ ?_;refine AA (CA rfl rfl) rfl ?_;refine Fx ?_;refine Ad ?_;refine F9 ?_;exact ⟨_,K_,rfl⟩
 case e=>
  dsimp only
  refine SZ ?_;refine A6 ?_;refine A9 ?_;exact B6
def YU(r:AB 8)(i:Nat):BitVec 64:=(Jz r (i/8) (min (i/8+5) r.length-i/8)>>>(i%8))&&&67108863#64
theorem Nh(k:r)(h:Hid r→g:=by intro h;refine AA (Sq (b:=8) rfl rfl O_ O_) rfl ?_;exact h.out):g:=h ⟨k⟩
theorem Oe(k:r)(h:Hid r→g:=by intro h;refine AA (HM (b:=8) rfl rfl O_ O_) rfl ?_;exact h.out):g:=h ⟨k⟩
theorem Xx(r:AB 8)(n cap i:Nat)(hl:r.length=n)(hn:n≤65536)(hi:i/8≤n):Ev prog (.call 184 [.c (.sl 0 0 n cap 1),Ae i] [Bw r]) (.val (.c (.val (BW (YU r i)))) [Bw r]):=by
 subst hl
 refine AG func184 rfl ntmps184 rfl AH ?_;refine AK ?_;refine BH ?_;refine Nh ?_;refine AR ?_;refine Nh ?_;refine AA (EH (b:=5) rfl rfl O_) rfl ?_;refine LG ?_;refine AA (aW rfl rfl) rfl ?_;refine AA (Zh rfl underlying23 Bz rfl rfl O_ O_) rfl ?_;refine Bh (AY (ez r _ _ _ O_ O_) fq rfl rfl rfl BT) AM rfl ?_;refine AR ?_;refine Oe ?_;refine SA ?_;refine AA (Fo (b:=67108863#64) rfl rfl) rfl ?_;exact B6
def BQ(l:AB 64):Nat→AB 64×BitVec 64
 |0=>(l,0#64)
 |k+1=>(put (BQ l k).1 k ((nth (BQ l k).1 k+(BQ l k).2)&&&67108863#64),(nth (BQ l k).1 k+(BQ l k).2)>>>26)
theorem Yw(l:AB 64)(k:Nat):BQ l (k+1)=(put (BQ l k).1 k ((nth (BQ l k).1 k+(BQ l k).2)&&&67108863#64),(nth (BQ l k).1 k+(BQ l k).2)>>>26):=rfl
theorem Eu(l:AB 64)(k:Nat):(BQ l k).1.length=l.length:=by
 induction k with
 |zero=>rfl
 |succ k ih=>simp [BQ,ih]
def BI(l:AB 64):AB 64:=put (BQ l 5).1 0 (nth (BQ l 5).1 0+5#64*(BQ l 5).2)
abbrev EQ(x:List (BitVec 64)):AV:= .agg (.a64 x)
theorem Bg(k:r)(h:Hid r→g:=by intro h;refine S_ ?_;refine Aq ?_;refine BE (Xk yy AH) AM rfl ?_;exact h.out):g:=h ⟨k⟩
theorem TG(k:r)(h:Hid r→g:=by intro h;refine BE (BO vw AH) AM rfl ?_;exact h.out):g:=h ⟨k⟩
theorem FD(k:r)(h:Hid r→g:=by intro h;refine S_ ?_;refine Aq ?_;refine AA (BA (b:=5) rfl rfl) rfl ?_;exact h.out):g:=h ⟨k⟩
theorem GW(k:r)(h:Hid r→g:=by intro h;refine AA (AT rfl rfl underlying213 BX O_) rfl ?_;exact h.out):g:=h ⟨k⟩
theorem D2(k:r)(h:Hid r→g:=by intro h;refine AA (Iw rfl rfl NR Dw) rfl ?_;refine AA (Af rfl) rfl ?_;exact h.out):g:=h ⟨k⟩
theorem D0(k:r)(h:Hid r→g:=by intro h;refine AA (U1 rfl rfl) rfl ?_;exact h.out):g:=h ⟨k⟩
theorem Fw(k:r)(h:Hid r→g:=by intro h;refine XQ rfl rfl rfl BX Dw AM ?_;exact h.out):g:=h ⟨k⟩
theorem BV(k:r)(h:Hid r→g:=by intro h;refine AA (Iw rfl rfl NR Dw) rfl ?_;exact h.out):g:=h ⟨k⟩
theorem Fz(k:r)(h:Hid r→g:=by intro h;refine XQ rfl rfl rfl BX Dw AM ?_;refine AN ?_;refine S_ ?_;refine Aq ?_;refine AA (EH (b:=1) rfl rfl O_) rfl ?_;refine AA (Af rfl) rfl ?_;refine AN ?_;exact h.out):g:=h ⟨k⟩
theorem WZ(k:r)(h:Hid r→g:=by intro h;refine AA (AT (j:=0) rfl rfl underlying213 BX O_) rfl ?_;exact h.out):g:=h ⟨k⟩
theorem OP(k:r)(h:Hid r→g:=by intro h;refine AA (Bj rfl rfl ZG aH C1 D_) rfl ?_;exact h.out):g:=h ⟨k⟩
theorem S6(k:r)(h:Hid r→g:=by intro h;refine Bm rfl rfl rfl rfl aH C1 C1 AM ?_;exact h.out):g:=h ⟨k⟩
theorem Jq(l:AB 64)(hl:l.length=5):Ev prog (.call 197 [EQ l] []) (.val (EQ (BI l)) []):=by
 refine AG func197 rfl ntmps197 rfl AH ?_;refine Bg ?_;refine TG ?_;refine AQ ?_;refine Ab ?_;refine AN ?_;refine U9 [5,3,1,2] rfl ?_;refine S_ ?_;refine fE [5,3,1,2] (fun (x:Nat×BitVec 64×AB 64)=>⟨31,AS [5,3,1,2] [.c (.val (.int .i64 x.1)),.c (.val (BW x.2.1)),.c (.ptr 0 0),.c (.ptr 1 0)],[.row true (.a64 x.2.2),.row true (.a64 (Aj 5))]⟩) (fun j=>(j,(BQ l j).2,(BQ l j).1)) 5 rfl ?r ?e
 case r=>
  intro j hj
  have h1:(BQ l j).1.length=5:=by rw [Eu,hl]
  generalize hS:(BQ l j).1=S at*
  generalize hC:(BQ l j).2=C at*
  dsimp only
  refine FD ?_;refine AZ ?_;refine Ab ?_;refine GW ?_;refine D2 ?_;refine D0 ?_;refine GW ?_;refine Fw ?_;refine AZ ?_;refine GW ?_;refine BV ?_;refine AA (CY (j:=26) rfl rfl) rfl ?_;refine Ab ?_;refine GW ?_;refine BV ?_;refine AA (Fo (b:=67108863#64) rfl rfl) rfl ?_;refine GW ?_;refine Fz ?_;refine ⟨(_,_,_),rfl,?_⟩
  simp only [BQ,hS,hC,jE,T5,DH _ _ _ _ (show j<S.length by omega),if_true]
 case e=>
  have h1:(BQ l 5).1.length=5:=by rw [Eu,hl]
  have hE:BI l=put (BQ l 5).1 0 (nth (BQ l 5).1 0+5#64*(BQ l 5).2):=rfl
  generalize hS:(BQ l 5).1=S at*
  generalize hC:(BQ l 5).2=C at*
  rw [hE]
  dsimp only
  refine FD ?_;refine A6 ?_;refine AK ?_;refine WZ ?_;refine D2 ?_;refine AA (HU (a:=5#64) rfl rfl) rfl ?_;refine D0 ?_;refine WZ ?_;refine Fw ?_;refine AQ ?_;refine OP ?_;refine S6 ?_;refine A6 ?_;exact gw (JR rfl rfl ZG aH C1 D_) (by (kernel_rfl))
@[simp] theorem JD(l:AB 64):(BI l).length=l.length:=by simp [BI,Eu]
attribute [irreducible] BI
def ZV(a b s:AB 64)(i j:Nat):AB 64:=
 put s ((i+j)%5) (nth s ((i+j)%5)+if 5≤i+j then nth a i*nth b j*5#64 else nth a i*nth b j)
def Nk(a b s:AB 64)(i:Nat):Nat→AB 64
 |0=>s
 |j+1=>ZV a b (Nk a b s i j) i j
def Jr(a b:AB 64):Nat→AB 64
 |0=>Aj 5
 |i+1=>Nk a b (Jr a b i) i 5
theorem Id(a b s:AB 64)(i:Nat):∀j,(Nk a b s i j).length=s.length
 |0=>rfl
 |j+1=>by simp [Nk,ZV,Id a b s i j]
theorem Ie(a b:AB 64):∀i,(Jr a b i).length=5
 |0=>rfl
 |i+1=>by rw [Jr,Id,Ie a b i]
def Tx(a b:AB 64):AB 64:=BI (BI (Jr a b 5))
theorem kA(a b:AB 64):Tx a b=BI (BI (Jr a b 5)):=rfl
@[simp] theorem XC(a b:AB 64):(Tx a b).length=5:=by rw [Tx,JD,JD,Ie]
attribute [irreducible] Tx
abbrev CH(x:List (BitVec 64)):Row:= .row true (.a64 x)
theorem I7(k:r)(h:Hid r→g:=by intro h;refine Ez 8 mixed K_ rfl rfl rfl ?_;exact h.out):g:=h ⟨k⟩
theorem fF(k:r)(h:Hid r→g:=by intro h;refine AE (AT rfl rfl underlying213 BX O_) rfl ?_;exact h.out):g:=h ⟨k⟩
theorem IL(k:r)(h:Hid r→g:=by intro h;refine AE (Iw rfl rfl NR Dw) rfl ?_;refine AE (Af rfl) rfl ?_;exact h.out):g:=h ⟨k⟩
theorem Hl(k:r)(h:Hid r→g:=by intro h;refine AE (Iw rfl rfl NR Dw) rfl ?_;exact h.out):g:=h ⟨k⟩
theorem H6(k:r)(h:Hid r→g:=by intro h;refine AE (Ac rfl) rfl ?_;refine Bn ?_;exact h.out):g:=h ⟨k⟩
theorem fO(k:r)(h:Hid r→g:=by intro h;refine AA (HM (b:=5) rfl rfl O_ O_) rfl ?_;exact h.out):g:=h ⟨k⟩
theorem pe(a b:AB 64)(ha:a.length=5)(hb:b.length=5):Ev prog (.call 185 [EQ a,EQ b] []) (.val (EQ (Tx a b)) []):=by
 refine AG func185 rfl ntmps185 rfl AH ?_;refine BY ?_;refine TG ?_;refine AQ ?_;refine TG ?_;refine Dd ?_;refine AU [2,3,5,9,4] (fun (x:Nat×AB 64)=>⟨42,AS [2,3,5,9,4] [Al 0,Al 1,Al 2,Ae (x.1),Al 3],[CH (a),CH (b),CH (x.2),CH (Aj 5)]⟩) (fun j=>(j,Jr a b j)) (5) K_ ?_ ?_
 ·intro i hi
  have h1:(Jr a b i).length=5:=Ie a b i
  simp only [Jr]
  generalize Jr a b i=S at*
  refine FD ?_;refine AZ ?_;refine Ab ?_;refine A6 ?_;refine AU [2,3,5,9,4,6,12] (fun (x:Nat×AB 64)=>⟨42,AS [2,3,5,9,4,6,12] [Al 0,Al 1,Al 2,Ae (i),Al 3,Ae (i),Ae (x.1)],[CH (a),CH (b),CH (x.2),CH (Aj 5)]⟩) (fun j=>(j,Nk a b S i j)) (5) K_ ?_ ?_
  ·intro j hj
   have h2:(Nk a b S i j).length=5:=by rw [Id,h1]
   simp only [Nk]
   generalize Nk a b S i j=U at*
   unfold ZV
   refine FD ?_;refine CT ?_;refine I7 ?_;refine Ah ?_;refine fF ?_;refine IL ?_;refine fF ?_;refine Hl ?_;refine AE (HU rfl rfl) rfl ?_;refine H6 ?_;refine Df ?_;refine I5 ?_;refine AA (Mn (b:=5) rfl rfl) rfl ?_;refine AN ?_;by_cases h5:5≤i+j
   ·rw [if_pos h5]
    refine A9 ?_;refine AA (HU (b:=5#64) rfl rfl) rfl ?_;refine BH ?_;refine I5 ?_;refine fO ?_;refine GW ?_;refine D2 ?_;refine D0 ?_;refine GW ?_;refine Fz ?_;exact ⟨_,K_,rfl⟩
   ·rw [if_neg h5]
    refine Ar ?_;refine I5 ?_;refine fO ?_;refine GW ?_;refine D2 ?_;refine D0 ?_;refine GW ?_;refine Fz ?_;exact ⟨_,K_,rfl⟩
  ·dsimp only
   have h3:(Nk a b S i 5).length=5:=by rw [Id,h1]
   refine FD ?_;refine D7 ?_;exact ⟨_,K_,rfl⟩
 ·dsimp only
  have h1:(Jr a b 5).length=5:=Ie a b 5
  rw [kA]
  generalize Jr a b 5=S at*
  refine FD ?_;refine AQ ?_;refine OP ?_;refine Bh (AY (Jq _ h1) V5 rfl rfl rfl BT) AM rfl ?_;refine Bh (AY (Jq _ (by rw [JD];exact h1)) V5 rfl rfl rfl BT) AM rfl ?_
  refine S6 ?_;refine A6 ?_;exact gw (JR rfl rfl ZG aH C1 D_) (by (kernel_rfl))
theorem ly(x y c:BitVec 64)(h:c.toNat≤1):(Cw x y c).toNat≤1:=by
 unfold Cw
 rw [BitVec.toNat_ofNat]
 have:=x.isLt
 have:=y.isLt
 omega
def K8(h:AB 64):AB 64:=
 if 0<(BQ (put (BI (BI (BI h))) 0 (nth (BI (BI (BI h))) 0+5#64)) 5).2.toNat
 then (BQ (put (BI (BI (BI h))) 0 (nth (BI (BI (BI h))) 0+5#64)) 5).1 else BI (BI (BI h))
def zE(h:AB 64):BitVec 64:=(nth h 0 ||| (nth h 1<<<26)) ||| (nth h 2<<<52)
def hiL(h:AB 64):BitVec 64:=((nth h 2>>>12) ||| (nth h 3<<<14)) ||| (nth h 4<<<40)
def Hj(lo hi:BitVec 64):Nat→AB 8
 |0=>Ag 16
 |k+1=>put (put (Hj lo hi k) k ((lo>>>(8*k)).setWidth 8)) (8+k) ((hi>>>(8*k)).setWidth 8)
theorem Kg(lo hi:BitVec 64)(k:Nat):(Hj lo hi k).length=16:=by
 induction k with
 |zero=>rfl
 |succ k ih=>simp [Hj,ih]
def TV(h:AB 64)(key:AB 8):AB 8:=
 Hj (zE (K8 h)+Jz key 16 8+0#64) (hiL (K8 h)+Jz key 24 8+Cw (zE (K8 h)) (Jz key 16 8) 0#64) 8
theorem XU(h:AB 64)(key:AB 8):TV h key=Hj (zE (K8 h)+Jz key 16 8+0#64) (hiL (K8 h)+Jz key 24 8+Cw (zE (K8 h)) (Jz key 16 8) 0#64) 8:=rfl
@[simp] theorem XH(h:AB 64)(key:AB 8):(TV h key).length=16:=by rw [XU,Kg]
theorem mN(h S:AB 64)(e:BI (BI (BI h))=S):K8 h=if 0<(BQ (put S 0 (nth S 0+5#64)) 5).2.toNat then (BQ (put S 0 (nth S 0+5#64)) 5).1 else S:=by subst e;rfl
theorem bM(h:AB 64):(K8 h).length=h.length:=by
 unfold K8
 split<;>simp [Eu]
attribute [irreducible] TV zE hiL K8
attribute [local irreducible] Jz
theorem Qw(k:r)(h:Hid r→g:=by intro h;refine BE (BO gO AH) AM rfl ?_;exact h.out):g:=h ⟨k⟩
theorem FA(k:r)(h:Hid r→g:=by intro h;refine AN ?_;refine Q_ ?_;exact h.out):g:=h ⟨k⟩
theorem Cx(k:r)(h:Hid r→g:=by intro h;refine AA (E9 rfl) rfl ?_;refine AA (Bs rfl rfl) rfl ?_;refine AA (Bs rfl rfl) rfl ?_;exact h.out):g:=h ⟨k⟩
theorem LN(k:r)(h:Hid r→g:=by intro h;refine Bm rfl rfl rfl rfl OX C1 C1 AM ?_;exact h.out):g:=h ⟨k⟩
theorem fS(h:g:=by exact gw (JR rfl rfl Mr OX C1 D_) (by (kernel_rfl))):g:=h
theorem yP(h:AB 64)(key:AB 8)(hh:h.length=5)(hk:key.length=32):Ev prog (.call 186 [EQ h,B4 key] []) (.val (B4 (TV h key)) []):=by
 have hS:(BI (BI (BI h))).length=5:=by simp [hh]
 have hM:=mN h _ rfl
 have hE:=XU h key
 refine AG func186 rfl ntmps186 rfl AH ?_;refine BY ?_;refine Qw ?_;refine AQ ?_;refine OP ?_;refine Bh (AY (Jq _ hh) V5 rfl rfl rfl BT) AM rfl ?_;refine Bh (AY (Jq _ (by simp [hh])) V5 rfl rfl rfl BT) AM rfl ?_
 refine Bh (AY (Jq _ (by simp [hh])) V5 rfl rfl rfl BT) AM rfl ?_
 refine S6 ?_;refine AN ?_;generalize BI (BI (BI h))=S at*
 refine AK ?_;refine OP ?_;refine TG ?_;refine S6 ?_;refine AQ ?_;refine WZ ?_;refine BV ?_;refine AA (U1 (b:=5#64) rfl rfl) rfl ?_;refine WZ ?_;refine Fw ?_;refine AQ ?_;refine Ab ?_;refine A6 ?_;refine AU [2,3,4,5,6,21] (fun (x:Nat×AB 64×BitVec 64)=>⟨99,AS [2,3,4,5,6,21] [Al 0,Al 1,Al 2,Al 3,.c (.val (BW (x.2.2))),Ae (x.1)],[CH (S),CM (key),CM (Ag 16),CH (x.2.1)]⟩) (fun j=>(j,BQ (put S 0 (nth S 0+5#64)) j)) (5) K_ ?_ ?_
 ·intro j hj
  have h1:(BQ (put S 0 (nth S 0+5#64)) j).1.length=5:=by rw [Eu,B1,hS]
  rw [Yw]
  generalize BQ (put S 0 (nth S 0+5#64)) j=U at*
  obtain ⟨U,C⟩:=U
  dsimp only at h1 ⊢
  refine FD ?_;refine AZ ?_;refine Ab ?_;refine GW ?_;refine D2 ?_;refine D0 ?_;refine GW ?_;refine Fw ?_;refine AZ ?_;refine GW ?_;refine BV ?_;refine AA (CY (j:=26) rfl rfl) rfl ?_;refine Ab ?_;refine GW ?_;refine BV ?_;refine AA (Fo (b:=67108863#64) rfl rfl) rfl ?_;refine GW ?_;refine Fz ?_;refine ⟨(_,_,_),rfl,?_⟩
  simp only [jE,T5,DH _ _ _ _ (show j<U.length by omega),if_true]
 ·have h1:(BQ (put S 0 (nth S 0+5#64)) 5).1.length=5:=by rw [Eu,B1,hS]
  generalize BQ (put S 0 (nth S 0+5#64)) 5=U at*
  obtain ⟨U,C⟩:=U
  dsimp only at h1 hM ⊢
  refine FD ?_;refine AZ ?_;refine AA (ig (b:=0#64) rfl rfl) rfl ?_;refine FA ?_;refine I1 [2,3,4] (fun (x:AB 64)=>⟨99,AS [2,3,4] [Al 0,Al 1,Al 2],[CH (x),CM (key),CM (Ag 16)]⟩) (K8 h) rfl (fun hb=>?_) (fun hb=>?_) ?_
  ·refine S_ ?_
   refine AK ?_;refine OP ?_;refine S6 ?_;refine AN ?_;refine ⟨_,rfl,?_⟩
   rw [hM,if_pos (show 0<C.toNat from of_decide_eq_true hb)]
  ·refine S_ ?_
   refine ⟨_,rfl,?_⟩
   rw [hM,if_neg (show ¬0<C.toNat from of_decide_eq_false hb)]
  have hL:(K8 h).length=5:=by rw [bM,hh]
  have hlo:zE (K8 h)=(nth (K8 h) 0 ||| (nth (K8 h) 1<<<26)) ||| (nth (K8 h) 2<<<52):=by with_unfolding_all rfl
  have hhi:hiL (K8 h)=((nth (K8 h) 2>>>12) ||| (nth (K8 h) 3<<<14)) ||| (nth (K8 h) 4<<<40):=by with_unfolding_all rfl
  rw [hlo,hhi] at hE
  clear hM hlo hhi
  generalize K8 h=U at*
  refine AK ?_;refine WZ ?_;refine BV ?_;refine AA (AT (j:=1) rfl rfl underlying213 BX O_) rfl ?_;refine BV ?_;refine AA (CA (j:=26) rfl rfl) rfl ?_;refine Fx ?_;refine AA (AT (j:=2) rfl rfl underlying213 BX O_) rfl ?_;refine BV ?_;refine AA (CA (j:=52) rfl rfl) rfl ?_;refine Fx ?_;refine Ad ?_;refine AA (AT (j:=2) rfl rfl underlying213 BX O_) rfl ?_;refine BV ?_;refine AA (CY (j:=12) rfl rfl) rfl ?_;refine AA (AT (j:=3) rfl rfl underlying213 BX O_) rfl ?_;refine BV ?_;refine AA (CA (j:=14) rfl rfl) rfl ?_;refine Fx ?_;refine AA (AT (j:=4) rfl rfl underlying213 BX O_) rfl ?_;refine BV ?_;refine AA (CA (j:=40) rfl rfl) rfl ?_;refine Fx ?_;refine Ab ?_;refine AA (Gz (l:=16) (h:=24) (len:=8) (cp:=16) rfl underlying37 Bz rfl rfl rfl O_ O_ Q2 rfl rfl) rfl ?_;refine Bh (AY (ez key _ 8 _ O_ O_) fq rfl rfl rfl BT) AM rfl ?_;refine Bh (jG U2 rfl rfl rfl (c:=0#64) rfl D_) AM rfl ?_;refine GQ ?_;refine AA (Gz (l:=24) (h:=32) (len:=8) (cp:=8) rfl underlying37 Bz rfl rfl rfl O_ O_ Q2 rfl rfl) rfl ?_;refine Bh (AY (ez key _ 8 _ O_ O_) fq rfl rfl rfl BT) AM rfl ?_;refine AR ?_;refine Bh (jG U2 rfl rfl rfl rfl (ly _ _ _ D_)) AM rfl ?_;refine Cx ?_;refine Ad ?_;refine Qw ?_;refine AZ ?_;refine AN ?_;rw [hE]
  generalize (nth U 0 ||| nth U 1<<<26 ||| nth U 2<<<52)+Jz key 16 8+0#64=lo
  generalize (nth U 2>>>12 ||| nth U 3<<<14 ||| nth U 4<<<40)+Jz key 24 8+Cw (nth U 0 ||| nth U 1<<<26 ||| nth U 2<<<52) (Jz key 16 8) 0#64=hi
  refine S_ ?_;refine AU [4,8,9,10,79] (fun (x:Nat×AB 8)=>⟨99,AS [4,8,9,10,79] [Al 0,.c (.val (BW (lo))),.c (.val (BW (hi))),Al 1,Ae (x.1)],[CM (Ag 16),CM (x.2)]⟩) (fun j=>(j,Hj lo hi j)) (8) K_ ?_ ?_
  ·intro j hj
   have h2:(Hj lo hi j).length=16:=Kg lo hi j
   simp only [Hj]
   generalize Hj lo hi j=V at*
   refine AK ?_;refine Qm ?_;refine CT ?_;refine qg mixed K_ ?_;refine KS (Af rfl) rfl ?_;refine KS (Af rfl) rfl ?_;refine KS (EH (a:=8) rfl rfl O_) rfl ?_;refine KS (Af rfl) rfl ?_;refine KS (Af rfl) rfl ?_;refine KS (K4 (a:=8) rfl rfl O_) rfl ?_;refine KS (CY rfl rfl) rfl ?_;refine KS (F3 rfl underlying70 underlying5 (pU _)) rfl ?_;refine KS (Af rfl) rfl ?_;refine KS (Af rfl) rfl ?_;refine KS (K4 (a:=8) rfl rfl O_) rfl ?_;refine KS (CY rfl rfl) rfl ?_;refine KS (F3 rfl underlying70 underlying5 (pU _)) rfl ?_;refine KS (AT rfl rfl underlying121 Bz O_) rfl ?_;refine cH rfl rfl rfl Bz Dw AM ?_;refine KS (AT rfl rfl underlying121 Bz O_) rfl ?_;refine cH rfl rfl rfl Bz Dw AM ?_;refine ABM ?_;refine AK ?_;refine F9 ?_;exact ⟨_,K_,rfl⟩
  ·dsimp only
   have h2:(Hj lo hi 8).length=16:=Kg lo hi 8
   generalize Hj lo hi 8=V at*
   refine AK ?_;refine Qm ?_;refine AQ ?_;refine AA (Bj rfl rfl Mr OX C1 D_) rfl ?_;refine LN ?_;refine A6 ?_;exact fS
def I4(l:AB 8):Nat→AB 8
 |0=>l
 |k+1=>put (I4 l k) (4*k+3) (nth (I4 l k) (4*k+3)&&&15#8)
def JH(l:AB 8):Nat→AB 8
 |0=>l
 |k+1=>put (JH l k) (4*k+4) (nth (JH l k) (4*k+4)&&&252#8)
theorem Qb(l:AB 8)(k:Nat):(I4 l k).length=l.length:=by
 induction k with
 |zero=>rfl
 |succ k ih=>simp [I4,ih]
theorem QY(l:AB 8)(k:Nat):(JH l k).length=l.length:=by
 induction k with
 |zero=>rfl
 |succ k ih=>simp [JH,ih]
def wR(key:AB 8):AB 8:=JH (I4 (cut key 0 16) 4) 3++[0#8]
def Js(b:AB 8):Nat→AB 64
 |0=>Aj 5
 |k+1=>put (Js b k) k (YU b (26*k))
theorem Qa(b:AB 8)(k:Nat):(Js b k).length=5:=by
 induction k with
 |zero=>rfl
 |succ k ih=>simp [Js,ih]
def WY(p:AB 8)(h:AB 64):Nat→AB 64
 |0=>h
 |k+1=>put (WY p h k) k (nth (WY p h k) k+YU p (26*k))
theorem US(p:AB 8)(h:AB 64)(k:Nat):(WY p h k).length=h.length:=by
 induction k with
 |zero=>rfl
 |succ k ih=>simp [WY,ih]
def XK(l:AB 8):Nat→AB 8
 |0=>l
 |k+1=>XK l k++[0#8]
theorem UC(l:AB 8)(k:Nat):(XK l k).length=l.length+k:=by
 induction k with
 |zero=>rfl
 |succ k ih=>simp [XK,ih];omega
def piece(t:AB 8)(i:Nat):AB 8:=cut t i (min (i+16) t.length-i)++[1#8]
def Oh(r:AB 64)(t:AB 8):Nat→AB 64
 |0=>Aj 5
 |q+1=>Tx (WY (XK (piece t (16*q)) (17-(piece t (16*q)).length)) (Oh r t q) 5) r
theorem Sc(r:AB 64)(t:AB 8)(q:Nat):(Oh r t q).length=5:=by
 cases q with
 |zero=>rfl
 |succ q=>rw [Oh,XC]
def R8(key t:AB 8):AB 8:=TV (Oh (Js (wR key) 5) t ((t.length+15)/16)) key
theorem yX{j:Nat}(h:j<4):xm [3,7,11,15] j=4*j+3:=by
 match j,h with
 |0,_=>rfl
 |1,_=>rfl
 |2,_=>rfl
 |3,_=>rfl
theorem AAU{j:Nat}(h:j<3):xm [4,8,12] j=4*j+4:=by
 match j,h with
 |0,_=>rfl
 |1,_=>rfl
 |2,_=>rfl
attribute [local irreducible] YU
theorem Iz(k:r)(h:Hid r→g:=by intro h;refine AA (DI rfl rfl underlying23 Bz O_) rfl ?_;exact h.out):g:=h ⟨k⟩
theorem Kd(k:r)(h:Hid r→g:=by intro h;refine AE (U1 rfl rfl) rfl ?_;exact h.out):g:=h ⟨k⟩
theorem Fu(k:r)(h:Hid r→g:=by intro h;refine AA (Bj rfl rfl Ld J9 C1 D_) rfl ?_;exact h.out):g:=h ⟨k⟩
theorem fI(key t:AB 8)(n cap:Nat)(hk:key.length=32)(ht:t.length=n)(hn:n≤1099511627776):Ev prog (.call 147 [B4 key,.c (.sl 0 0 n cap 1)] [Bw t]) (.val (B4 (R8 key t)) [Bw t]):=by
 have hP:R8 key t=TV (Oh (Js (JH (I4 (cut key 0 16) 4) 3++[0#8]) 5) t ((n+15)/16)) key:=by rw [←ht];rfl
 have hcut:(cut key 0 16).length=16:=by rw [Ck];omega
 refine AG func147 rfl ntmps147 rfl AH ?_;refine Bg ?_;refine Qw ?_;refine AQ ?_;refine JK ?_;refine AA (Gz (l:=0) (h:=16) (len:=16) (cp:=32) rfl underlying37 Bz rfl rfl rfl O_ O_ Q2 rfl rfl) rfl ?_;refine Tw ?_;refine Ad ?_;refine BE (Wj (l:=UV [3,7,11,15]) underlying41 QK rfl rfl D_ D_ AH) AM rfl ?_;refine H1 ?_;refine Rq ?_;generalize cut key 0 16=K at*
 refine S_ ?_;refine AU [2,4,5,19,20,21,1] (fun (x:Nat×AB 8)=>⟨101,AS [2,4,5,19,20,21,1] [Al 1,Al 2,.c (.sl 3 0 16 16 1),.c (.sl 4 0 4 4 1),Ae (((4:Nat):Int)),Ae (x.1),.c (.sl 0 0 n cap 1)],[Bw (t),CM (key),CM (Ag 16),CM (x.2),.row true (.ai (UV [3,7,11,15]))]⟩) (fun j=>(j,I4 K j)) (4) K_ ?_ ?_
 ·intro j hj
  have h1:(I4 K j).length=16:=by rw [Qb,hcut]
  simp only [I4]
  generalize I4 K j=U at*
  refine PH ?_;refine rH ?_;refine AA (Mc rfl rfl Bv Dw) rfl ?_;refine Bc ?_;rw [yX hj]
  refine Ar ?_;refine Iz ?_;refine GZ ?_;refine AA (Ng (b:=15#8) rfl rfl) rfl ?_;refine Iz ?_;refine C3 ?_;refine D7 ?_;exact ⟨_,K_,rfl⟩
 ·have h1:(I4 K 4).length=16:=by rw [Qb,hcut]
  generalize I4 K 4=U at*
  dsimp only
  refine PH ?_;refine BE (Wj (l:=UV [4,8,12]) underlying41 QK rfl rfl D_ D_ AH) AM rfl ?_;refine H1 ?_;refine RO ?_;refine AU [2,4,5,32,33,34,1] (fun (x:Nat×AB 8)=>⟨101,AS [2,4,5,32,33,34,1] [Al 1,Al 2,.c (.sl 3 0 16 16 1),.c (.sl 4 0 3 3 1),Ae (((3:Nat):Int)),Ae (x.1),.c (.sl 0 0 n cap 1)],[Bw (t),CM (key),CM (Ag 16),CM (x.2),.row true (.ai (UV [4,8,12]))]⟩) (fun j=>(j,JH U j)) (3) K_ ?_ ?_
  ·intro j hj
   have h2:(JH U j).length=16:=by rw [QY,h1]
   simp only [JH]
   generalize JH U j=V at*
   refine PH ?_;refine rH ?_;refine AA (Mc rfl rfl Bv Dw) rfl ?_;refine Bc ?_;rw [AAU hj]
   refine Ar ?_;refine Iz ?_;refine GZ ?_;refine AA (Ng (b:=252#8) rfl rfl) rfl ?_;refine Iz ?_;refine C3 ?_;refine D7 ?_;exact ⟨_,K_,rfl⟩
  ·have h2:(JH U 3).length=16:=by rw [QY,h1]
   generalize JH U 3=V at*
   dsimp only
   refine PH ?_;refine TG ?_;refine TG ?_;refine AZ ?_;refine V8 ?_;refine Cr ?_;refine Ab ?_;refine AN ?_;have h3:(V++[0#8]).length=17:=by simp [h2]
   generalize V++[0#8]=W at*
   refine S_ ?_;refine AU [2,4,5,10,11,48,1] (fun (x:Nat×AB 64)=>⟨101,AS [2,4,5,10,11,48,1] [Al 1,Al 2,.c (.sl 3 0 17 17 1),Al 4,Al 5,Ae (x.1),.c (.sl 0 0 n cap 1)],[Bw (t),CM (key),CM (Ag 16),CM (W),CH (x.2),CH (Aj 5)]⟩) (fun j=>(j,Js W j)) (5) K_ ?_ ?_
   ·intro j hj
    have h4:(Js W j).length=5:=Qa W j
    simp only [Js]
    generalize Js W j=X at*
    refine FD ?_;refine AZ ?_;refine BH ?_;refine AR ?_;refine AA (K4 (a:=26) rfl rfl O_) rfl ?_;refine Bh (AY (Xx W 17 _ _ h3 O_ O_) nx rfl rfl rfl BT) AM rfl ?_;refine GW ?_;refine Fz ?_;exact ⟨_,K_,rfl⟩
   ·have h4:(Js W 5).length=5:=Qa W 5
    generalize Js W 5=X at*
    dsimp only
    refine FD ?_;refine AQ ?_;refine Ay ?_;refine AU [2,4,10,11,13,1] (fun (x:Nat×AB 64)=>⟨101,AS [2,4,10,11,13,1] [Al 1,Al 2,Al 3,Al 4,Ae (x.1),.c (.sl 0 0 n cap 1)],[Bw (t),CM (key),CM (Ag 16),CH (X),CH (x.2)]⟩) (fun q=>(16*q,Oh X t q)) ((n+15)/16) K_ ?_ ?_
    ·intro q hq
     have h5:(Oh X t q).length=5:=Sc X t q
     have hp:piece t (16*q)=cut t (16*q) (min (16*q+16) n-16*q)++[1#8]:=by rw [←ht];rfl
     have hc:(cut t (16*q) (min (16*q+16) n-16*q)).length=min (16*q+16) n-16*q:=by rw [Ck];omega
     have hz:(cut t (16*q) (min (16*q+16) n-16*q)++[1#8]).length=min (16*q+16) n-16*q+1:=by rw [List.length_append,hc];rfl
     rw [Oh,hp,hz]
     generalize Oh X t q=H at*
     refine Ar ?_;refine CV ?_;refine DF ?_;refine AQ ?_;refine JK ?_;refine FZ ?_;refine AR ?_;refine AA (EH (b:=16) rfl rfl O_) rfl ?_;refine LG ?_;refine AA (aW rfl rfl) rfl ?_;refine AA (Zh rfl underlying23 Bz rfl rfl O_ O_) rfl ?_;refine Tw ?_;refine BE (Xz (l:=[1#8]) underlying23 Gb rfl rfl D_ D_ AH) AM rfl ?_;refine Cr ?_;refine Bc ?_;clear hp hc
     have hz1:min (16*q+16) n-16*q+1≤17:=by omega
     generalize cut t (16*q) (min (16*q+16) n-16*q)++[1#8]=Z at*
     generalize min (16*q+16) n-16*q+1=z at*
     refine S_ ?_;refine AU [2,4,10,11,13,1,14] (fun (x:Nat×AB 8)=>⟨101,AS [2,4,10,11,13,1,14] [Al 1,Al 2,Al 3,Al 4,Ae (((16*q:Nat):Int)),.c (.sl 0 0 n cap 1),.c (.sl 5 0 (z+x.1) (z+x.1) 1)],[Bw (t),CM (key),CM (Ag 16),CH (X),CH (H),CM (x.2)]⟩) (fun k=>(k,XK Z k)) (17-z) K_ ?_ ?_
     ·intro k hk
      have h6:(XK Z k).length=z+k:=by rw [UC,hz]
      simp only [XK]
      generalize XK Z k=Y at*
      refine GV ?_;refine AA (BA (b:=17) rfl rfl) rfl ?_;refine AZ ?_;refine V8 ?_;refine Cr ?_;refine Bc ?_;exact ⟨_,K_,rfl⟩
     ·have h6:(XK Z (17-z)).length=z+(17-z):=by rw [UC,hz]
      have hy:z+(17-z)=17:=by omega
      dsimp only
      generalize XK Z (17-z)=Y at*
      generalize z+(17-z)=y at*
      refine GV ?_;refine AA (BA (b:=17) rfl rfl) rfl ?_;refine Dd ?_;refine AU [2,4,10,11,13,1,14,82] (fun (x:Nat×AB 64)=>⟨101,AS [2,4,10,11,13,1,14,82] [Al 1,Al 2,Al 3,Al 4,Ae (((16*q:Nat):Int)),.c (.sl 0 0 n cap 1),.c (.sl 5 0 y y 1),Ae (x.1)],[Bw (t),CM (key),CM (Ag 16),CH (X),CH (x.2),CM (Y)]⟩) (fun i=>(i,WY Y H i)) (5) K_ ?_ ?_
      ·intro i hi
       have h7:(WY Y H i).length=5:=by rw [US,h5]
       simp only [WY]
       generalize WY Y H i=G at*
       refine FD ?_;refine CT ?_;refine I7 ?_;refine Ah ?_;refine fF ?_;refine Hl ?_;refine Bt ?_;refine AE (K4 (a:=26) rfl rfl O_) rfl ?_;refine Io (AY (Xx Y y _ _ h6 O_ O_) nx rfl rfl rfl BT) AM rfl ?_;refine Kd ?_;refine Bn ?_;refine GW ?_;refine Fz ?_;exact ⟨_,K_,rfl⟩
      ·have h7:(WY Y H 5).length=5:=by rw [US,h5]
       dsimp only
       generalize WY Y H 5=G at*
       refine FD ?_;refine AQ ?_;refine OP ?_;refine OP ?_;refine Fb (pe G X h7 h4) yG ?_;refine S6 ?_;refine AZ ?_;refine AA (EH (b:=16) rfl rfl O_) rfl ?_;refine Bc ?_;exact ⟨(16*q+16,_),K_,by rw [Nat.mul_succ]⟩
    ·have h5:(Oh X t ((n+15)/16)).length=5:=Sc X t _
     rw [hP]
     dsimp only
     generalize Oh X t ((n+15)/16)=H at*
     refine Ar ?_;refine CV ?_;refine DF ?_;refine AQ ?_;refine OP ?_;refine Fu ?_;refine Fb (yP H key h5 hk) yE ?_;refine LN ?_;refine A6 ?_;exact fS
end Go.Proofs.YtmbepikkgkcgkaaGreatDoor
