/- Merged and shortened by a program: part 12. -/
import Derived.Test.YtmbepikkgkcgkaaGreatDoorUR11
set_option maxRecDepth 100000
set_option maxHeartbeats 8000000
namespace Go.Proofs.YtmbepikkgkcgkaaGreatDoor
open Go.RowKit
variable {g r : Prop}
open Go.Proofs.Tryz
def Rm(a:AA 64):AA 64:=(if (((nth (BS (Bd a) (AE (AE (AE (AJ BU (put (AC 4) 0 3#64)))))) 0)&&&1#64)==1#64)=true then Aq (AC 4) (BS (Bd a) (AE (AE (AE (AJ BU (put (AC 4) 0 3#64)))))) else BS (Bd a) (AE (AE (AE (AJ BU (put (AC 4) 0 3#64))))))
theorem nT(k:r)(h:Hid r→g:=by intro h;refine AB (Fd (l:=(put (AC 4) 0 (3#64))) Hx underlying128 Am rfl rfl) rfl ?_;exact h.out):g:=h ⟨k⟩
theorem oQ(k:r)(h:Hid r→g:=by intro h;refine Ae (S9 BU (put (AC 4) 0 3#64) AD AD) aT ?_;exact h.out):g:=h ⟨k⟩
theorem oE(k:r)(h:Hid r→g:=by intro h;refine AO (Ka (AJ BU (put (AC 4) 0 3#64)) AD) VC ?_;exact h.out):g:=h ⟨k⟩
theorem oM(k:r)(h:Hid r→g:=by intro h;refine AO (Ka (AE (AJ BU (put (AC 4) 0 3#64))) AD) VC ?_;exact h.out):g:=h ⟨k⟩
theorem qh(k:r)(h:Hid r→g:=by intro h;refine AO (Ka (AE (AE (AJ BU (put (AC 4) 0 3#64)))) AD) VC ?_;exact h.out):g:=h ⟨k⟩
theorem YB(k:r)(h:Hid r→g:=by intro h;refine AH (AAx rfl rfl underlying128 underlying70 Am B7 B7) rfl ?_;exact h.out):g:=h ⟨k⟩
theorem oJ(a:AA 64)(ha:a.length=4)(hx:ZW a^Cv*ZW a^Cv=ZW a):Ev prog (.call 134 [Aw (a)] []) (.val (.tup [Aw (Rm a),.c (.val (.bool (true)))]) []):=by
 have hP_rfRootA0:Hid (Rm a=(if (((nth (BS (Bd a) (AE (AE (AE (AJ BU (put (AC 4) 0 3#64)))))) 0)&&&1#64)==1#64)=true then Aq (AC 4) (BS (Bd a) (AE (AE (AE (AJ BU (put (AC 4) 0 3#64)))))) else BS (Bd a) (AE (AE (AE (AJ BU (put (AC 4) 0 3#64))))))):=⟨rfl⟩
 refine AI func134 rfl ntmps134 rfl AM ?_;refine BA ?_;refine FG ?_;refine BZ ?_;have hQ1:(Bd a).length=4:=AP
 refine Kc ?_;refine Ae (RD a AD) Sr ?_;refine ED ?_;have hQ2:(BU).length=4:=AP
 have hQ3:(AJ BU (put (AC 4) 0 3#64)).length=4:=AP
 refine Ab ?_;refine Ae (I0) Ik ?_;refine nT ?_;refine oQ ?_;refine Ch ?_;refine Lq ?_;refine BZ ?_;have hQ4:(AE (AJ BU (put (AC 4) 0 3#64))).length=4:=AP
 have hQ5:(AE (AE (AJ BU (put (AC 4) 0 3#64)))).length=4:=AP
 have hQ6:(AE (AE (AE (AJ BU (put (AC 4) 0 3#64))))).length=4:=AP
 have hQ7:(BS (Bd a) (AE (AE (AE (AJ BU (put (AC 4) 0 3#64)))))).length=4:=AP
 refine Jd ?_;refine CN ?_;refine oE ?_;refine oM ?_;refine qh ?_;refine AO (ZJ (Bd a) (AE (AE (AE (AJ BU (put (AC 4) 0 3#64))))) AD AD) Zv ?_;refine Ji ?_;refine ED ?_;have hQ8:(AG (BS (Bd a) (AE (AE (AE (AJ BU (put (AC 4) 0 3#64)))))) (BS (Bd a) (AE (AE (AE (AJ BU (put (AC 4) 0 3#64))))))).length=4:=AP
 refine In ?_;refine CN ?_;refine AO (Ax (BS (Bd a) (AE (AE (AE (AJ BU (put (AC 4) 0 3#64)))))) (BS (Bd a) (AE (AE (AE (AJ BU (put (AC 4) 0 3#64)))))) AD AD) CA ?_;refine CO ?_;refine YB ?_;refine Fs ?_;refine Cg rfl (by rw [decide_eq_true (by have h:=(TP a _).2 hx;rw [←vq] at h;unfold R0 at h;exact h)];rfl) ?_
 have hQ9:(AG (BS (Bd a) (AE (AE (AE (AJ BU (put (AC 4) 0 3#64)))))) (BS (Bd a) (AE (AE (AE (AJ BU (put (AC 4) 0 3#64))))))).length=4:=AP
 refine In ?_;refine CN ?_;refine AO (Ax (BS (Bd a) (AE (AE (AE (AJ BU (put (AC 4) 0 3#64)))))) (BS (Bd a) (AE (AE (AE (AJ BU (put (AC 4) 0 3#64)))))) AD AD) CA ?_;refine CO ?_;refine YB ?_;refine Fs ?_;refine Cg rfl (by rw [decide_eq_true (by have h:=(TP a _).2 hx;rw [←vq] at h;unfold R0 at h;exact h)];rfl) ?_
 refine Ab ?_;refine jW ?_;refine A3 ?_;refine XU ?_;refine SM ?_;refine EA ?_;refine Eb [2,6] (fun (zz:AA 64)=>⟨55,AU [2,6] [AY 0,AY 1],[Bb (AC 4),Bb (zz)]⟩) (if (((nth (BS (Bd a) (AE (AE (AE (AJ BU (put (AC 4) 0 3#64)))))) 0)&&&1#64)==1#64)=true then Aq (AC 4) (BS (Bd a) (AE (AE (AE (AJ BU (put (AC 4) 0 3#64)))))) else BS (Bd a) (AE (AE (AE (AJ BU (put (AC 4) 0 3#64)))))) rfl (fun hb=>?_) (fun hb=>?_) ?_
 ·have hQ11:(Aq (AC 4) (BS (Bd a) (AE (AE (AE (AJ BU (put (AC 4) 0 3#64))))))).length=4:=AP
  refine Ab ?_;refine M5 ?_;refine IQ ?_;refine Ae (CV (AC 4) (BS (Bd a) (AE (AE (AE (AJ BU (put (AC 4) 0 3#64)))))) AD AD) La ?_;refine Gp ?_;refine ⟨(Aq (AC 4) (BS (Bd a) (AE (AE (AE (AJ BU (put (AC 4) 0 3#64))))))),K_,?_⟩
  rw [if_pos (hb)]
 ·refine S_ ?_
  refine ⟨(BS (Bd a) (AE (AE (AE (AJ BU (put (AC 4) 0 3#64)))))),K_,?_⟩
  rw [if_neg (by (rw [hb];decide))]
 have hJ10:(if (((nth (BS (Bd a) (AE (AE (AE (AJ BU (put (AC 4) 0 3#64)))))) 0)&&&1#64)==1#64)=true then Aq (AC 4) (BS (Bd a) (AE (AE (AE (AJ BU (put (AC 4) 0 3#64)))))) else BS (Bd a) (AE (AE (AE (AJ BU (put (AC 4) 0 3#64)))))).length=4:=by split<;>simp [*]
 generalize (if (((nth (BS (Bd a) (AE (AE (AE (AJ BU (put (AC 4) 0 3#64)))))) 0)&&&1#64)==1#64)=true then Aq (AC 4) (BS (Bd a) (AE (AE (AE (AJ BU (put (AC 4) 0 3#64)))))) else BS (Bd a) (AE (AE (AE (AJ BU (put (AC 4) 0 3#64))))))=J10 at*
 refine Kc ?_;refine FQ ?_;refine Al ?_;rw [hP_rfRootA0.out]
 exact aY
attribute [irreducible] Rm
def So(a:AA 64):AA 64:=(if (((nth (AG (BS (Bd a) (AE (AE (AE (AJ BU (put (AC 4) 0 3#64)))))) (BS (put (AC 4) 0 2#64) (AE (AE (Af BU (put (AC 4) 0 1#64)))))) 0)&&&1#64)==1#64)=true then Aq (AC 4) (AG (BS (Bd a) (AE (AE (AE (AJ BU (put (AC 4) 0 3#64)))))) (BS (put (AC 4) 0 2#64) (AE (AE (Af BU (put (AC 4) 0 1#64)))))) else AG (BS (Bd a) (AE (AE (AE (AJ BU (put (AC 4) 0 3#64)))))) (BS (put (AC 4) 0 2#64) (AE (AE (Af BU (put (AC 4) 0 1#64))))))
theorem ya(k:r)(h:Hid r→g:=by intro h;refine AO (ZJ (put (AC 4) 0 2#64) (AE (AE (Af BU (put (AC 4) 0 1#64)))) AD AD) Zv ?_;exact h.out):g:=h ⟨k⟩
theorem pz(a:AA 64)(ha:a.length=4)(hx:¬(ZW a^Cv*ZW a^Cv=ZW a))(hy:ZW a^Cv*iF*(ZW a^Cv*iF)=ZW a):Ev prog (.call 134 [Aw (a)] []) (.val (.tup [Aw (So a),.c (.val (.bool (true)))]) []):=by
 have hP_rfRootB0:Hid (So a=(if (((nth (AG (BS (Bd a) (AE (AE (AE (AJ BU (put (AC 4) 0 3#64)))))) (BS (put (AC 4) 0 2#64) (AE (AE (Af BU (put (AC 4) 0 1#64)))))) 0)&&&1#64)==1#64)=true then Aq (AC 4) (AG (BS (Bd a) (AE (AE (AE (AJ BU (put (AC 4) 0 3#64)))))) (BS (put (AC 4) 0 2#64) (AE (AE (Af BU (put (AC 4) 0 1#64)))))) else AG (BS (Bd a) (AE (AE (AE (AJ BU (put (AC 4) 0 3#64)))))) (BS (put (AC 4) 0 2#64) (AE (AE (Af BU (put (AC 4) 0 1#64))))))):=⟨rfl⟩
 refine AI func134 rfl ntmps134 rfl AM ?_;refine BA ?_;refine FG ?_;refine BZ ?_;have hQ1:(Bd a).length=4:=AP
 refine Kc ?_;refine Ae (RD a AD) Sr ?_;refine ED ?_;have hQ2:(BU).length=4:=AP
 have hQ3:(AJ BU (put (AC 4) 0 3#64)).length=4:=AP
 refine Ab ?_;refine Ae (I0) Ik ?_;refine nT ?_;refine oQ ?_;refine Ch ?_;refine Lq ?_;refine BZ ?_;have hQ4:(AE (AJ BU (put (AC 4) 0 3#64))).length=4:=AP
 have hQ5:(AE (AE (AJ BU (put (AC 4) 0 3#64)))).length=4:=AP
 have hQ6:(AE (AE (AE (AJ BU (put (AC 4) 0 3#64))))).length=4:=AP
 have hQ7:(BS (Bd a) (AE (AE (AE (AJ BU (put (AC 4) 0 3#64)))))).length=4:=AP
 refine Jd ?_;refine CN ?_;refine oE ?_;refine oM ?_;refine qh ?_;refine AO (ZJ (Bd a) (AE (AE (AE (AJ BU (put (AC 4) 0 3#64))))) AD AD) Zv ?_;refine Ji ?_;refine ED ?_;have hQ8:(AG (BS (Bd a) (AE (AE (AE (AJ BU (put (AC 4) 0 3#64)))))) (BS (Bd a) (AE (AE (AE (AJ BU (put (AC 4) 0 3#64))))))).length=4:=AP
 refine In ?_;refine CN ?_;refine AO (Ax (BS (Bd a) (AE (AE (AE (AJ BU (put (AC 4) 0 3#64)))))) (BS (Bd a) (AE (AE (AE (AJ BU (put (AC 4) 0 3#64)))))) AD AD) CA ?_;refine CO ?_;refine YB ?_;refine Fs ?_;refine FJ rfl (by rw [decide_eq_false (fun h=>hx ((TP a _).1 (by rw [←vq];unfold R0;exact h)))];rfl) ?_
 have hQ9:(BU).length=4:=AP
 have hQ10:(Af BU (put (AC 4) 0 1#64)).length=4:=AP
 refine Ab ?_;refine Ae (I0) Ik ?_;refine cH ?_;refine Ae (NC BU (put (AC 4) 0 1#64) AD AD) Uh ?_;refine Ch ?_;refine Lq ?_;refine BZ ?_;have hQ11:(AE (Af BU (put (AC 4) 0 1#64))).length=4:=AP
 have hQ12:(AE (AE (Af BU (put (AC 4) 0 1#64)))).length=4:=AP
 have hQ13:(BS (put (AC 4) 0 2#64) (AE (AE (Af BU (put (AC 4) 0 1#64))))).length=4:=AP
 have hQ14:(AG (BS (Bd a) (AE (AE (AE (AJ BU (put (AC 4) 0 3#64)))))) (BS (put (AC 4) 0 2#64) (AE (AE (Af BU (put (AC 4) 0 1#64)))))).length=4:=AP
 refine Jd ?_;refine CO ?_;refine AH (Fd (l:=(put (AC 4) 0 (2#64))) Hx underlying128 Am rfl rfl) rfl ?_;refine CO ?_;refine AO (Ka (Af BU (put (AC 4) 0 1#64)) AD) VC ?_;refine AO (Ka (AE (Af BU (put (AC 4) 0 1#64))) AD) VC ?_;refine ya ?_;refine AO (Ax (BS (Bd a) (AE (AE (AE (AJ BU (put (AC 4) 0 3#64)))))) (BS (put (AC 4) 0 2#64) (AE (AE (Af BU (put (AC 4) 0 1#64))))) AD AD) CA ?_;refine BJ ?_;refine ED ?_;have hQ15:(AG (AG (BS (Bd a) (AE (AE (AE (AJ BU (put (AC 4) 0 3#64)))))) (BS (put (AC 4) 0 2#64) (AE (AE (Af BU (put (AC 4) 0 1#64)))))) (AG (BS (Bd a) (AE (AE (AE (AJ BU (put (AC 4) 0 3#64)))))) (BS (put (AC 4) 0 2#64) (AE (AE (Af BU (put (AC 4) 0 1#64))))))).length=4:=AP
 refine In ?_;refine CN ?_;refine AO (Ax (AG (BS (Bd a) (AE (AE (AE (AJ BU (put (AC 4) 0 3#64)))))) (BS (put (AC 4) 0 2#64) (AE (AE (Af BU (put (AC 4) 0 1#64)))))) (AG (BS (Bd a) (AE (AE (AE (AJ BU (put (AC 4) 0 3#64)))))) (BS (put (AC 4) 0 2#64) (AE (AE (Af BU (put (AC 4) 0 1#64)))))) AD AD) CA ?_;refine CO ?_;refine YB ?_;refine Fs ?_;refine Cg rfl (by rw [decide_eq_true (by have h:=(TP a _).2 hy;rw [←AG1] at h;unfold R1 at h;exact h)];rfl) ?_
 refine Ab ?_;refine jW ?_;refine A3 ?_;refine XU ?_;refine SM ?_;refine EA ?_;refine Eb [2,6] (fun (zz:AA 64)=>⟨55,AU [2,6] [AY 0,AY 1],[Bb (AC 4),Bb (zz)]⟩) (if (((nth (AG (BS (Bd a) (AE (AE (AE (AJ BU (put (AC 4) 0 3#64)))))) (BS (put (AC 4) 0 2#64) (AE (AE (Af BU (put (AC 4) 0 1#64)))))) 0)&&&1#64)==1#64)=true then Aq (AC 4) (AG (BS (Bd a) (AE (AE (AE (AJ BU (put (AC 4) 0 3#64)))))) (BS (put (AC 4) 0 2#64) (AE (AE (Af BU (put (AC 4) 0 1#64)))))) else AG (BS (Bd a) (AE (AE (AE (AJ BU (put (AC 4) 0 3#64)))))) (BS (put (AC 4) 0 2#64) (AE (AE (Af BU (put (AC 4) 0 1#64)))))) rfl (fun hb=>?_) (fun hb=>?_) ?_
 ·have hQ17:(Aq (AC 4) (AG (BS (Bd a) (AE (AE (AE (AJ BU (put (AC 4) 0 3#64)))))) (BS (put (AC 4) 0 2#64) (AE (AE (Af BU (put (AC 4) 0 1#64))))))).length=4:=AP
  refine Ab ?_;refine M5 ?_;refine IQ ?_;refine Ae (CV (AC 4) (AG (BS (Bd a) (AE (AE (AE (AJ BU (put (AC 4) 0 3#64)))))) (BS (put (AC 4) 0 2#64) (AE (AE (Af BU (put (AC 4) 0 1#64)))))) AD AD) La ?_;refine Gp ?_;refine ⟨(Aq (AC 4) (AG (BS (Bd a) (AE (AE (AE (AJ BU (put (AC 4) 0 3#64)))))) (BS (put (AC 4) 0 2#64) (AE (AE (Af BU (put (AC 4) 0 1#64))))))),K_,?_⟩
  rw [if_pos (hb)]
 ·refine S_ ?_
  refine ⟨(AG (BS (Bd a) (AE (AE (AE (AJ BU (put (AC 4) 0 3#64)))))) (BS (put (AC 4) 0 2#64) (AE (AE (Af BU (put (AC 4) 0 1#64)))))),K_,?_⟩
  rw [if_neg (by (rw [hb];decide))]
 have hJ16:(if (((nth (AG (BS (Bd a) (AE (AE (AE (AJ BU (put (AC 4) 0 3#64)))))) (BS (put (AC 4) 0 2#64) (AE (AE (Af BU (put (AC 4) 0 1#64)))))) 0)&&&1#64)==1#64)=true then Aq (AC 4) (AG (BS (Bd a) (AE (AE (AE (AJ BU (put (AC 4) 0 3#64)))))) (BS (put (AC 4) 0 2#64) (AE (AE (Af BU (put (AC 4) 0 1#64)))))) else AG (BS (Bd a) (AE (AE (AE (AJ BU (put (AC 4) 0 3#64)))))) (BS (put (AC 4) 0 2#64) (AE (AE (Af BU (put (AC 4) 0 1#64)))))).length=4:=by split<;>simp [*]
 generalize (if (((nth (AG (BS (Bd a) (AE (AE (AE (AJ BU (put (AC 4) 0 3#64)))))) (BS (put (AC 4) 0 2#64) (AE (AE (Af BU (put (AC 4) 0 1#64)))))) 0)&&&1#64)==1#64)=true then Aq (AC 4) (AG (BS (Bd a) (AE (AE (AE (AJ BU (put (AC 4) 0 3#64)))))) (BS (put (AC 4) 0 2#64) (AE (AE (Af BU (put (AC 4) 0 1#64)))))) else AG (BS (Bd a) (AE (AE (AE (AJ BU (put (AC 4) 0 3#64)))))) (BS (put (AC 4) 0 2#64) (AE (AE (Af BU (put (AC 4) 0 1#64))))))=J16 at*
 refine Kc ?_;refine FQ ?_;refine Al ?_;rw [hP_rfRootB0.out]
 exact aY
attribute [irreducible] So
def Rs:AA 64:=AC 4
theorem om(a:AA 64)(ha:a.length=4)(hx:¬(ZW a^Cv*ZW a^Cv=ZW a))(hy:¬(ZW a^Cv*iF*(ZW a^Cv*iF)=ZW a)):Ev prog (.call 134 [Aw (a)] []) (.val (.tup [Aw (Rs),.c (.val (.bool (false)))]) []):=by
 have hP_rfRootC0:Hid (Rs=AC 4):=⟨rfl⟩
 refine AI func134 rfl ntmps134 rfl AM ?_;refine BA ?_;refine FG ?_;refine BZ ?_;have hQ1:(Bd a).length=4:=AP
 refine Kc ?_;refine Ae (RD a AD) Sr ?_;refine ED ?_;have hQ2:(BU).length=4:=AP
 have hQ3:(AJ BU (put (AC 4) 0 3#64)).length=4:=AP
 refine Ab ?_;refine Ae (I0) Ik ?_;refine nT ?_;refine oQ ?_;refine Ch ?_;refine Lq ?_;refine BZ ?_;have hQ4:(AE (AJ BU (put (AC 4) 0 3#64))).length=4:=AP
 have hQ5:(AE (AE (AJ BU (put (AC 4) 0 3#64)))).length=4:=AP
 have hQ6:(AE (AE (AE (AJ BU (put (AC 4) 0 3#64))))).length=4:=AP
 have hQ7:(BS (Bd a) (AE (AE (AE (AJ BU (put (AC 4) 0 3#64)))))).length=4:=AP
 refine Jd ?_;refine CN ?_;refine oE ?_;refine oM ?_;refine qh ?_;refine AO (ZJ (Bd a) (AE (AE (AE (AJ BU (put (AC 4) 0 3#64))))) AD AD) Zv ?_;refine Ji ?_;refine ED ?_;have hQ8:(AG (BS (Bd a) (AE (AE (AE (AJ BU (put (AC 4) 0 3#64)))))) (BS (Bd a) (AE (AE (AE (AJ BU (put (AC 4) 0 3#64))))))).length=4:=AP
 refine In ?_;refine CN ?_;refine AO (Ax (BS (Bd a) (AE (AE (AE (AJ BU (put (AC 4) 0 3#64)))))) (BS (Bd a) (AE (AE (AE (AJ BU (put (AC 4) 0 3#64)))))) AD AD) CA ?_;refine CO ?_;refine YB ?_;refine Fs ?_;refine FJ rfl (by rw [decide_eq_false (fun h=>hx ((TP a _).1 (by rw [←vq];unfold R0;exact h)))];rfl) ?_
 have hQ9:(BU).length=4:=AP
 have hQ10:(Af BU (put (AC 4) 0 1#64)).length=4:=AP
 refine Ab ?_;refine Ae (I0) Ik ?_;refine cH ?_;refine Ae (NC BU (put (AC 4) 0 1#64) AD AD) Uh ?_;refine Ch ?_;refine Lq ?_;refine BZ ?_;have hQ11:(AE (Af BU (put (AC 4) 0 1#64))).length=4:=AP
 have hQ12:(AE (AE (Af BU (put (AC 4) 0 1#64)))).length=4:=AP
 have hQ13:(BS (put (AC 4) 0 2#64) (AE (AE (Af BU (put (AC 4) 0 1#64))))).length=4:=AP
 have hQ14:(AG (BS (Bd a) (AE (AE (AE (AJ BU (put (AC 4) 0 3#64)))))) (BS (put (AC 4) 0 2#64) (AE (AE (Af BU (put (AC 4) 0 1#64)))))).length=4:=AP
 refine Jd ?_;refine CO ?_;refine AH (Fd (l:=(put (AC 4) 0 (2#64))) Hx underlying128 Am rfl rfl) rfl ?_;refine CO ?_;refine AO (Ka (Af BU (put (AC 4) 0 1#64)) AD) VC ?_;refine AO (Ka (AE (Af BU (put (AC 4) 0 1#64))) AD) VC ?_;refine ya ?_;refine AO (Ax (BS (Bd a) (AE (AE (AE (AJ BU (put (AC 4) 0 3#64)))))) (BS (put (AC 4) 0 2#64) (AE (AE (Af BU (put (AC 4) 0 1#64))))) AD AD) CA ?_;refine BJ ?_;refine ED ?_;have hQ15:(AG (AG (BS (Bd a) (AE (AE (AE (AJ BU (put (AC 4) 0 3#64)))))) (BS (put (AC 4) 0 2#64) (AE (AE (Af BU (put (AC 4) 0 1#64)))))) (AG (BS (Bd a) (AE (AE (AE (AJ BU (put (AC 4) 0 3#64)))))) (BS (put (AC 4) 0 2#64) (AE (AE (Af BU (put (AC 4) 0 1#64))))))).length=4:=AP
 refine In ?_;refine CN ?_;refine AO (Ax (AG (BS (Bd a) (AE (AE (AE (AJ BU (put (AC 4) 0 3#64)))))) (BS (put (AC 4) 0 2#64) (AE (AE (Af BU (put (AC 4) 0 1#64)))))) (AG (BS (Bd a) (AE (AE (AE (AJ BU (put (AC 4) 0 3#64)))))) (BS (put (AC 4) 0 2#64) (AE (AE (Af BU (put (AC 4) 0 1#64)))))) AD AD) CA ?_;refine CO ?_;refine YB ?_;refine Fs ?_;refine FJ rfl (by rw [decide_eq_false (fun h=>hy ((TP a _).1 (by rw [←AG1];unfold R1;exact h)))];rfl) ?_
 refine Ab ?_;refine M5 ?_;refine FQ ?_;refine Al ?_;rw [hP_rfRootC0.out]
 exact aY
attribute [irreducible] Rs
theorem ej(a:AA 64)(hx:ZW a^Cv*ZW a^Cv=ZW a):Rm a=IG a∧JU a=true:=by
 unfold IG JU
 rw [xy hx]
 refine ⟨?_,decide_eq_true hx⟩
 rw [if_pos hx,←xE,←vq]
 unfold Rm R0
 rfl
theorem ez(a:AA 64)(hx:¬(ZW a^Cv*ZW a^Cv=ZW a))(hy:ZW a^Cv*iF*(ZW a^Cv*iF)=ZW a):So a=IG a∧JU a=true:=by
 unfold IG JU
 rw [fT hx]
 refine ⟨?_,decide_eq_true hy⟩
 rw [if_pos hy,←xE,←AG1]
 unfold So R1
 rfl
theorem xu(a:AA 64)(ha:a.length=4):Ev prog (.call 134 [Aw a] []) (.val (.tup [Aw (IG a),.c (.val (.bool (JU a)))]) []):=by
 by_cases hx:ZW a^Cv*ZW a^Cv=ZW a
 ·have h:=oJ a ha hx
  rw [(ej a hx).1] at h
  rw [(ej a hx).2]
  exact h
 ·by_cases hy:ZW a^Cv*iF*(ZW a^Cv*iF)=ZW a
  ·have h:=pz a ha hx hy
   rw [(ez a hx hy).1] at h
   rw [(ez a hx hy).2]
   exact h
  ·have h:=om a ha hx hy
   have e:Rs=IG a∧JU a=false:=by
    unfold IG JU
    rw [fT hx]
    exact ⟨by rw [if_neg hy,←QM];unfold Rs;rfl,decide_eq_false hy⟩
   rw [e.1] at h
   rw [e.2]
   exact h
theorem VQ(a b:AA 64):ZW (AG a b)=ZW a*ZW b:=by unfold AG;exact G1 _
theorem jB(a b:AA 64):ZW (Aq a b)=ZW a-ZW b:=by unfold Aq;exact G1 _
theorem AAa(a b:AA 64):ZW (Aj a b)=ZW a+ZW b:=by unfold Aj;exact G1 _
theorem br(a:AA 64):ZW (BT a)=Gi (ZW a):=by unfold BT;exact G1 _
theorem fj:ZW (AC 4)=0:=by rw [QM,G1]
theorem cR(x:BitVec 64):ZW (put (AC 4) 0 x)=zf x.toNat:=by unfold ZW;rw [TA]
theorem AF6:ZW (put (AC 4) 0 1#64)=1:=by rw [cR,zs1]
theorem sK:ZW MF=dF:=by
 unfold MF
 rw [VQ,jB,br,fj,cR,cR]
 exact AHV
def RQ(p:AA 64):Qt:=⟨ZW (cut p 0 4),ZW (cut p 4 4),ZW (cut p 8 4),ZW (cut p 12 4)⟩
theorem qT{a b c d:AA 64}(ha:a.length=4)(hb:b.length=4)(hc:c.length=4)(hd:d.length=4):RQ (a++b++c++d)=⟨ZW a,ZW b,ZW c,ZW d⟩:=by
 obtain ⟨a0,a1,a2,a3,rfl⟩:=four ha
 obtain ⟨b0,b1,b2,b3,rfl⟩:=four hb
 obtain ⟨c0,c1,c2,c3,rfl⟩:=four hc
 obtain ⟨d0,d1,d2,d3,rfl⟩:=four hd
 rfl
theorem AKB(T d U:Fp):T*d*U+T*d*U=(d+d)*T*U:=by grobner
theorem AJK(Z W:Fp):Z*W+Z*W=(Z+Z)*W:=by grobner
theorem P1(p q:AA 64):RQ (Cw p q MF)=qo (RQ p) (RQ q):=by
 unfold Cw
 rw [qT (CL _ _) (CL _ _) (CL _ _) (CL _ _)]
 simp only [VQ,jB,AAa,sK]
 rw [AKB,AJK]
 rfl
theorem nr:RQ QP=rb:=by
 unfold QP
 rw [qT (by simp) (by simp) (by simp) (by simp),fj,AF6]
 rfl
theorem up(n p:AA 64):∀j,j≤256→RQ (Fb n p j)=Wn (RQ p) (wV n) j:=by
 intro j
 induction j with
 |zero=>
  intro _
  rw [Fb,Wn]
  exact nr
 |succ j ih=>
  intro hj
  have h2:=ih O_
  rw [Fb,Q0,Wn,bc n (255-j) O_]
  by_cases hc:wV n/2^(255-j)%2=1
  ·rw [if_pos (decide_eq_true hc),if_pos hc,P1,P1,h2]
  ·rw [if_neg (by rw [decide_eq_false hc];decide),if_neg hc,P1,h2]
theorem fI(n:AA 64){p:AA 64}{P:Ua}(hr:Yk (RQ p) P.p):Yk (RQ (L6 n p)) (ABU P (wV n)).p:=by
 unfold L6
 rw [up n p 256 (Nat.le_refl _)]
 exact eG P.on hr _ (IF n)
theorem pF{p q:AA 64}{P Q:Ua}(h1:Yk (RQ p) P.p)(h2:Yk (RQ q) Q.p):Yk (RQ (Cw p q MF)) (AE5 P Q).p:=by
 rw [P1]
 exact ZZ P.on Q.on h1 h2
theorem AIF(x:Fp):((nth (WF x) 0&&&1#64)==1#64)=decide (x.val%2=1):=by
 have e0:nth (WF x) 0=BitVec.ofNat 64 x.val:=rfl
 have e:(nth (WF x) 0&&&1#64).toNat=x.val%2:=by
  rw [BitVec.toNat_and,e0,BitVec.toNat_ofNat]
  have:=Nat.and_two_pow_sub_one_eq_mod (x.val%2^64) 1
  rw [show (1#64:BitVec 64).toNat=2^1-1 from rfl,this]
  omega
 by_cases h:x.val%2=1
 ·rw [decide_eq_true h,beq_iff_eq]
  apply BitVec.eq_of_toNat_eq
  rw [e,h];rfl
 ·rw [decide_eq_false h,beq_eq_false_iff_ne]
  intro hx
  apply h
  rw [←e,hx];rfl
theorem AIz(u:Fp):rB (WF u)=F u:=by
 unfold rB F
 rw [TJ]
theorem Wo{p:AA 64}{P:Ua}(hr:Yk (RQ p) P.p):M7 p=enc P:=by
 obtain ⟨z,ex,ey,_⟩:=hr
 have hx:AG (cut p 0 4) (BT (cut p 8 4))=WF P.p.x:=by
  unfold AG
  rw [br]
  exact congrArg WF (SA z ex)
 have hy:AG (cut p 4 4) (BT (cut p 8 4))=WF P.p.y:=by
  unfold AG
  rw [br]
  exact congrArg WF (SA z ey)
 have hl:Gt (F P.p.y) 32<MM:=by
  rw [fe]
  exact Nat.lt_trans P.p.y.isLt D_
 unfold M7
 rw [hx,hy,AIF,AIz]
 by_cases ho:P.p.x.val%2=1
 ·rw [if_pos (decide_eq_true ho)]
  refine (Zy (by rw [BW,bT]) ?_).symm
  rw [yf (bT _) hl,fe]
  unfold Re
  rw [ho,Nat.one_mul]
 ·rw [if_neg (by rw [decide_eq_false ho];decide)]
  refine (Zy (bT _) ?_).symm
  rw [fe]
  unfold Re
  rw [show P.p.x.val%2=0 by omega,Nat.zero_mul,Nat.add_zero]
def W1(b:AA 8):AA 64:=JJ (put b 31 ((nth b 31)&&&127#8))
def Sk(b:AA 8):AA 64:=AG (Aq (AG (W1 b) (W1 b)) (put (AC 4) 0 1#64)) (BT (Aj (AG MF (AG (W1 b) (W1 b))) (put (AC 4) 0 1#64)))
def rdX(b:AA 8):AA 64:=if kK b=true then Aq (AC 4) (IG (Sk b)) else IG (Sk b)
def Nb(b:AA 8):AA 64:=if CP b=true then rdX b++W1 b++(put (AC 4) 0 1#64)++(AG (rdX b) (W1 b)) else AC 16
theorem Zf{b:AA 8}(hb:b.length=32):(W1 b).length=4:=by
 unfold W1
 exact lr _ (by rw [BW,hb])
theorem tN(b:AA 8):(rdX b).length=4:=by
 unfold rdX
 split
 ·exact FE _ _
 ·unfold IG;rfl
@[simp] theorem AKg(b:AA 8)(hb:b.length=32):(Nb b).length=16:=by
 unfold Nb
 split
 ·simp [tN,Zf hb]
 ·simp
theorem ZO{b:AA 8}(hb:b.length=32):wV (W1 b)=JQ b:=by
 unfold W1 JQ
 rw [fc,gN hb]
theorem lQ{b:AA 8}(hb:b.length=32):ZW (Sk b)=Lz (zf (JQ b)):=by
 have hy:ZW (W1 b)=zf (JQ b):=by unfold ZW;rw [ZO hb]
 unfold Sk
 rw [VQ,jB,VQ,br,AAa,VQ,VQ,sK,AF6,hy]
 rfl
theorem TQ{b:AA 8}(hb:b.length=32){r:Bool}(h:wb b=r):(Bu (W1 b) BU==1#64)=r:=by
 rw [←h,AJF hb,←ZO hb]
 obtain ⟨e,hc⟩:=Kq (a:=W1 b) (b:=BU) (Zf hb) (by simp)
 have l1:=IF (Af (W1 b) BU)
 have l2:=IF (W1 b)
 rw [il] at e
 change _+57896044618658097711785492504343953926634992332820282019728792003956564819949=_ at e
 by_cases h:wV (W1 b)<PP
 ·rw [decide_eq_true h,beq_iff_eq]
  change _<57896044618658097711785492504343953926634992332820282019728792003956564819949 at h
  apply BitVec.eq_of_toNat_eq
  show _=1
  omega
 ·rw [decide_eq_false h,beq_eq_false_iff_ne]
  change ¬_<57896044618658097711785492504343953926634992332820282019728792003956564819949 at h
  intro h2
  have:(Bu (W1 b) BU).toNat=1:=by rw [h2];rfl
  omega
theorem Vb{b:AA 8}(hb:b.length=32){r:Bool}(h:Uq b=r):JU (Sk b)=r:=by
 rw [←h,ZT hb]
 unfold JU
 rw [lQ hb]
theorem rg{b:AA 8}(hb:b.length=32)(h:Uq b=true):IG (Sk b)=WF (RR (D9 (Lz (zf (JQ b))))):=by
 rw [ZT hb] at h
 unfold IG
 rw [lQ hb,if_pos (of_decide_eq_true h)]
theorem ZX{b:AA 8}(hb:b.length=32)(h1:Uq b=true){r:Bool}(h:unZ b=r):decide (IG (Sk b)=AC 4)=r:=by
 rw [←h,AAR hb,rg hb h1,QM]
 refine decide_eq_decide.2 ?_;rw [AAQ]
 refine ⟨fun e=>?_,fun e=>?_⟩
 ·rcases yF (D9 (Lz (zf (JQ b)))) with g | g
  ·rw [←g,e]
  ·rw [e] at g
   exact AIt g
 ·rw [e]
  decide+kernel
theorem PX(b:AA 8)(hb:b.length=32):Ev prog (.call 96 [BM b] []) (.val (.tup [Aw (Nb b),.c (.val (.bool (CP b)))]) []):=by
 have yl:=Zf hb
 have ye:Ev prog (.call 83 [.agg (.a8 (put b 31 ((nth b 31)&&&127#8)))] []) (.val (.agg (.a64 (W1 b))) []):=Tw _ (by rw [BW,hb])
 have re:Ev prog (.call 134 [.agg (.a64 (Sk b))] []) (.val (.tup [.agg (.a64 (IG (Sk b))),.c (.val (.bool (JU (Sk b))))]) []):=xu _ (by unfold Sk;exact CL _ _)
 have rl:(IG (Sk b)).length=4:=by unfold IG;rfl
 have dl:MF.length=4:=by simp
 have hXX:Sk b=AG (Aq (AG (W1 b) (W1 b)) (put (AC 4) 0 1#64)) (BT (Aj (AG MF (AG (W1 b) (W1 b))) (put (AC 4) 0 1#64))):=rfl
 cases hC:wb b with
 |false=>
  have e:CP b=false:=by unfold CP;rw [hC];rfl
  have e2:Nb b=AC 16:=by unfold Nb;rw [e];rfl
  rw [e,e2]
  rw [hXX] at re
  exact wT b hb AG CL Ax Aq FE CV Aj Fa Co BT Ef C5 _ yl ye MF dl TI _ rl _ re (TQ hb hC)
 |true=>
  cases hR:Uq b with
  |false=>
   have e:CP b=false:=by unfold CP;rw [hC,hR];rfl
   have e2:Nb b=AC 16:=by unfold Nb;rw [e];rfl
   rw [e,e2]
   rw [hXX] at re
   exact uG b hb AG CL Ax Aq FE CV Aj Fa Co BT Ef C5 _ yl ye MF dl TI _ rl _ re (TQ hb hC) (Vb hb hR)
  |true=>
   cases hO:kK b with
   |false=>
    have e:CP b=true:=by unfold CP;rw [hC,hR,hO];rfl
    have e2:Nb b=IG (Sk b)++W1 b++(put (AC 4) 0 1#64)++(AG (IG (Sk b)) (W1 b)):=by unfold Nb rdX;rw [e,hO];rfl
    rw [e,e2]
    cases hZ:unZ b with
    |true=>
     have hz:=ZX hb hR hZ
     rw [hXX] at re
     exact uy b hb AG CL Ax Aq FE CV Aj Fa Co BT Ef C5 _ yl ye MF dl TI _ rl _ re (TQ hb hC) (Vb hb hR) (eqO b hO) hz
    |false=>
     have hz:=ZX hb hR hZ
     rw [hXX] at re
     exact vp b hb AG CL Ax Aq FE CV Aj Fa Co BT Ef C5 _ yl ye MF dl TI _ rl _ re (TQ hb hC) (Vb hb hR) (eqO b hO) hz
   |true=>
    cases hZ:unZ b with
    |true=>
     have hz:=ZX hb hR hZ
     have e:CP b=false:=by unfold CP;rw [hC,hR,hO,hZ];rfl
     have e2:Nb b=AC 16:=by unfold Nb;rw [e];rfl
     rw [e,e2]
     rw [hXX] at re
     exact te b hb AG CL Ax Aq FE CV Aj Fa Co BT Ef C5 _ yl ye MF dl TI _ rl _ re (TQ hb hC) (Vb hb hR) (eqO b hO) hz
    |false=>
     have hz:=ZX hb hR hZ
     have e:CP b=true:=by unfold CP;rw [hC,hR,hO,hZ];rfl
     have e2:Nb b=Aq (AC 4) (IG (Sk b))++W1 b++(put (AC 4) 0 1#64)++(AG (Aq (AC 4) (IG (Sk b))) (W1 b)):=by unfold Nb rdX;rw [e,hO];rfl
     rw [e,e2]
     rw [hXX] at re
     exact uz b hb AG CL Ax Aq FE CV Aj Fa Co BT Ef C5 _ yl ye MF dl TI _ rl _ re (TQ hb hC) (Vb hb hR) (eqO b hO) hz
theorem Zk{b:AA 8}(hb:b.length=32)(P:Ua)(hP:b=enc P):Yk (RQ (Nb b)) P.p:=by
 have hok:CP b=true:=by rw [hP];exact ae P
 have hR:Uq b=true:=by
  unfold CP at hok
  simp only [Bool.and_eq_true] at hok
  exact hok.2.1
 have hy:ZW (W1 b)=P.p.y:=by
  unfold ZW
  rw [ZO hb]
  unfold JQ
  rw [hP,Vn,(Ku P).2.1,HQ]
 have hl:zf (JQ b)=P.p.y:=by rw [←hy];unfold ZW;rw [ZO hb]
 have ho:kK b=true↔P.p.x.val%2=1:=by
  rw [AFe,decide_eq_true_eq,hP,Vn]
  exact (Ku P).2.2
 have hr:=(ZT hb).symm.trans hR
 have hr:=of_decide_eq_true hr
 have hx:ZW (rdX b)=P.p.x:=by
  unfold rdX
  rw [rg hb hR]
  by_cases hc:kK b=true
  ·rw [if_pos hc,jB,fj,G1,WS]
   refine pJ ?_ ?_
   ·rw [rK,ba,hr,hl,em]
   ·have hp:=ho.1 hc
    rw [hp,gM,cJ]
    intro h0
    have h1:=ba (D9 (Lz (zf (JQ b))))
    rw [h0,hr,hl,←em,Mj] at h1
    have hx0:P.p.x=0:=by rcases XD h1.symm with h | h<;>exact h
    rw [hx0] at hp
    change 0%2=1 at hp
    omega
  ·rw [if_neg hc,G1]
   refine pJ ?_ ?_
   ·rw [ba,hr,hl,em]
   ·rw [cJ]
    have:=mt ho.2 hc
    omega
 unfold Nb
 rw [if_pos hok,qT (tN b) (Zf hb) (by simp) (CL _ _),VQ,AF6,hx,hy]
 exact gz
attribute [irreducible] Nb
theorem vS   (AG:AA 64→AA 64→AA 64) (CL:∀a b:AA 64,(AG a b).length=4) (Ax:∀a b:AA 64,a.length=4→b.length=4→Ev prog (.call 86 [Aw a,Aw b] []) (.val (Aw (AG a b)) [])) (BT:AA 64→AA 64) (Ef:∀a:AA 64,(BT a).length=4) (C5:∀a:AA 64,a.length=4→Ev prog (.call 88 [Aw a] []) (.val (Aw (BT a)) [])):Ev prog (.call 142 [] []) (.val (Aw (Nb (rB (AG (put (AC 4) 0 4#64) (BT (put (AC 4) 0 5#64)))))) []):=by
 refine AI func142 rfl ntmps142 rfl AM ?_;refine Ab ?_;refine Gu ?_;refine AR ?_;have hQ1:(BT (put (AC 4) 0 5#64)).length=4:=AP
 have hQ2:(AG (put (AC 4) 0 4#64) (BT (put (AC 4) 0 5#64))).length=4:=AP
 refine Ab ?_;refine AB (Fd (l:=(put (AC 4) 0 (4#64))) Hx underlying128 Am rfl rfl) rfl ?_;refine AB (Fd (l:=(put (AC 4) 0 (5#64))) Hx underlying128 Am rfl rfl) rfl ?_;refine Ae (C5 (put (AC 4) 0 5#64) AD) V2 ?_;refine Ae (Ax (put (AC 4) 0 4#64) (BT (put (AC 4) 0 5#64)) AD AD) CA ?_;refine I4 ?_;have hQ3:(rB (AG (put (AC 4) 0 4#64) (BT (put (AC 4) 0 5#64)))).length=32:=AP
 have hQ4:(Nb (rB (AG (put (AC 4) 0 4#64) (BT (put (AC 4) 0 5#64))))).length=16:=AP
 refine Kc ?_;refine Ae (tM (AG (put (AC 4) 0 4#64) (BT (put (AC 4) 0 5#64))) AD) sf ?_;refine Ae (PX (rB (AG (put (AC 4) 0 4#64) (BT (put (AC 4) 0 5#64)))) AD) YX ?_;refine Ch ?_;refine Gu ?_;refine Fo ?_;refine Ai ?_;refine XF ?_;refine Fo ?_;refine Ar ?_;exact ia
def Rd:AA 64:=Nb (rB (AG (put (AC 4) 0 4#64) (BT (put (AC 4) 0 5#64))))
theorem xZ:Ev prog (.call 142 [] []) (.val (Aw (Rd )) []):=by
 unfold Rd
 exact vS   AG CL Ax BT Ef C5
@[simp] theorem AH4:(Rd ).length=16:=by
 unfold Rd
 (simp [*];done)
attribute [irreducible] Rd
def Vs(p q:AA 8):AA 8:=M7 (Cw (Nb p) (Nb q) MF)
theorem oq(k:r)(h:Hid r→g:=by intro h;refine AH (A9 rfl rfl ZG ag B7 D_) rfl ?_;exact h.out):g:=h ⟨k⟩
theorem vG(p q:AA 8)(hp:p.length=32)(hq:q.length=32)(hk:CP p=true)(hq_:CP q=true):Ev prog (.call 99 [BM (p),BM (q)] []) (.val (.tup [BM (Vs p q),.c (.val (.bool (true)))]) []):=by
 have hP_rfSumT0:Hid (Vs p q=M7 (Cw (Nb p) (Nb q) MF)):=⟨rfl⟩
 refine AI func99 rfl ntmps99 rfl AM ?_;refine BO ?_;refine Dr ?_;refine BZ ?_;have hQ2:(Nb p).length=16:=AP
 have hE1:(CP p)=true:=hk
 refine Bg ?_;refine Ae (PX p AD) YX ?_;refine QJ ?_;refine AB (C6 (Bj rfl rfl) hE1) rfl ?_;refine Gu ?_;refine Fo ?_;refine BZ ?_;have hQ4:(Nb q).length=16:=AP
 have hE3:(CP q)=true:=hq_
 refine Bg ?_;refine Ae (PX q AD) YX ?_;refine QJ ?_;refine AB (C6 (Bj rfl rfl) hE3) rfl ?_;refine Gu ?_;refine Fo ?_;refine BF ?_;refine FN ?_;refine Ip ?_;refine FN ?_;refine SJ ?_;have hQ5:(MF).length=4:=AP
 have hQ6:(Cw (Nb p) (Nb q) MF).length=16:=AP
 have hQ7:(M7 (Cw (Nb p) (Nb q) MF)).length=32:=AP
 refine In ?_;refine oq ?_;refine oq ?_;refine AO (TI) Um ?_;refine AO (Xb (Nb p) (Nb q) MF AD AD AD) oZ ?_;refine AO (aC (Cw (Nb p) (Nb q) MF) AD) nW ?_;refine I8 ?_;refine Al ?_;rw [hP_rfSumT0.out]
 exact Ll
attribute [irreducible] Vs
def V9(n p:AA 8):AA 8:=M7 (L6 (JJ n) (Nb p))
theorem vJ(n p:AA 8)(hn:n.length=32)(hp:p.length=32)(hk:CP p=true):Ev prog (.call 97 [BM (n),BM (p)] []) (.val (.tup [BM (V9 n p),.c (.val (.bool (true)))]) []):=by
 have hP_rfTmsT0:Hid (V9 n p=M7 (L6 (JJ n) (Nb p))):=⟨rfl⟩
 refine AI func97 rfl ntmps97 rfl AM ?_;refine BO ?_;refine Dr ?_;refine BZ ?_;have hQ2:(Nb p).length=16:=AP
 have hE1:(CP p)=true:=hk
 refine Bg ?_;refine Ae (PX p AD) YX ?_;refine QJ ?_;refine AB (C6 (Bj rfl rfl) hE1) rfl ?_;refine Gu ?_;refine Fo ?_;refine BF ?_;refine UA ?_;have hQ3:(JJ n).length=4:=AP
 have hQ4:(L6 (JJ n) (Nb p)).length=16:=AP
 have hQ5:(M7 (L6 (JJ n) (Nb p))).length=32:=AP
 refine In ?_;refine Cn ?_;refine AO (Tw n AD) Sj ?_;refine oq ?_;refine AO (lO (JJ n) (Nb p) AD AD) xI ?_;refine AO (aC (L6 (JJ n) (Nb p)) AD) nW ?_;refine I8 ?_;refine Al ?_;rw [hP_rfTmsT0.out]
 exact Ll
attribute [irreducible] V9
def Td:AA 8:=Ac 32
theorem wG(n p:AA 8)(_hn:n.length=32)(hp:p.length=32)(hk:CP p=false):Ev prog (.call 97 [BM (n),BM (p)] []) (.val (.tup [BM (Td),.c (.val (.bool (false)))]) []):=by
 have hP_rfTmsF0:Hid (Td=Ac 32):=⟨rfl⟩
 refine AI func97 rfl ntmps97 rfl AM ?_;refine BO ?_;refine Dr ?_;refine BZ ?_;have hQ2:(Nb p).length=16:=AP
 have hE1:(CP p)=false:=hk
 refine Bg ?_;refine Ae (PX p AD) YX ?_;refine QJ ?_;refine AB (C6 (Bj rfl rfl) hE1) rfl ?_;refine Gu ?_;refine Fo ?_;refine BF ?_;refine FN ?_;refine AZ ?_;refine Wh ?_;refine Gr ?_;refine Al ?_;rw [hP_rfTmsF0.out]
 exact Ll
@[simp] theorem AEB:(Td).length=32:=by
 unfold Td
 (simp (maxDischargeDepth:=9) [*];done)
attribute [irreducible] Td
def xV(n:AA 8):AA 8:=M7 (L6 (JJ n) Rd)
theorem ACK(n:AA 8)(hn:n.length=32):Ev prog (.call 100 [BM (n)] []) (.val (BM (xV n)) []):=by
 have hP:=Hid.mk (xV.eq_1 n)
 refine AI func100 rfl ntmps100 rfl AM ?_;refine BA ?_;refine Lh ?_;have hQ1:(JJ n).length=4:=AP
 have hQ2:(Rd).length=16:=AP
 have hQ3:(L6 (JJ n) Rd).length=16:=AP
 have hQ4:(M7 (L6 (JJ n) Rd)).length=32:=AP
 refine Bg ?_;refine Ae (Tw n AD) Sj ?_;refine Ae (xZ) AGO ?_;refine Ae (lO (JJ n) Rd AD AD) xI ?_;refine Ae (aC (L6 (JJ n) Rd) AD) nW ?_;refine GH ?_;rw [hP.out]
 exact Ec
attribute [irreducible] xV
theorem AG5{p q:AA 8}(hp:p.length=32)(hq:q.length=32)(hk:CP p=true)(hq_:CP q=true):Vs p q=F4 p q:=by
 obtain ⟨P,e1,_⟩:=Vk hp hk
 obtain ⟨Q,e2,_⟩:=Vk hq hq_
 have h1:=Zk hp P e1
 have h2:=Zk hq Q e2
 unfold Vs
 rw [Wo (pF h1 h2),e1,e2,ADN]
theorem AGp(n:AA 8){p:AA 8}(hp:p.length=32)(hk:CP p=true):V9 n p=Dc n p:=by
 obtain ⟨P,e1,_⟩:=Vk hp hk
 have h1:=Zk hp P e1
 unfold V9
 rw [Wo (fI _ h1),e1,sQ,fc]
theorem AE7:rB (AG (put (AC 4) 0 4#64) (BT (put (AC 4) 0 5#64)))=enc Yb:=by
 have h4:zf (4#64:BitVec 64).toNat*Gi (zf (5#64:BitVec 64).toNat)=bY:=SA (by decide+kernel) (by decide+kernel)
 unfold AG
 rw [AIz,br,cR,cR,h4]
 unfold F enc Re
 decide+kernel
theorem ABs(n:AA 8):xV n=enc (oB n):=by
 unfold xV Rd
 rw [AE7,Wo (fI _ (Zk (gt Yb) Yb rfl)),fc]
 unfold oB
 rfl
theorem AFB(p q:AA 8)(hp:p.length=32)(hq:q.length=32)(hk:CP p=true)(hq_:CP q=true):Ev prog (.call 99 [BM p,BM q] []) (.val (.tup [BM (F4 p q),.c (.val (.bool true))]) []):=by
 rw [←AG5 hp hq hk hq_];exact vG p q hp hq hk hq_
theorem AF5(n p:AA 8)(hn:n.length=32)(hp:p.length=32)(hk:CP p=true):Ev prog (.call 97 [BM n,BM p] []) (.val (.tup [BM (Dc n p),.c (.val (.bool true))]) []):=by
 rw [←AGp n hp hk];exact vJ n p hn hp hk
theorem AGs(n:AA 8)(hn:n.length=32):Ev prog (.call 100 [BM n] []) (.val (BM (enc (oB n))) []):=by
 rw [←ABs];exact ACK n hn
theorem mE(r pub text:AA 8):dL r pub text=C8 r pub text:=by
 unfold dL C8
 rfl
theorem QL(n:AA 8)(v:Bool)(hn:n.length=32)(h:Ga n=v):Ev prog (.call 95 [BM n] []) (.val (.c (.val (.bool v))) []):=by
 rw [←h];exact ud n hn
theorem bj(b:AA 8)(v:Bool)(hb:b.length=32)(h:CP b=v):Ev prog (.call 96 [BM b] []) (.val (.tup [Aw (Nb b),.c (.val (.bool v))]) []):=by
 rw [←h];exact PX b hb
theorem aU(r pub text:AA 8)(tn tcap:Nat)(hr:r.length=32)(hpub:pub.length=32)(htext:text.length=tn)(htn:tn≤1099511627):Ev prog (.call 98 [BM (r),BM (pub),.c (.sl 0 0 tn tcap 1)] [A0 (text)]) (.val (BM (C8 r pub text)) [A0 (text)]):=by
 have h_:=wX r pub text tn tcap hr hpub htext htn
 rw [mE] at h_
 exact h_
theorem ig(k:r)(h:Hid r→g:=by intro h;refine AI func59 rfl ntmps59 rfl AM ?_;exact h.out):g:=h ⟨k⟩
theorem Qn(k:r)(h:Hid r→g:=by intro h;refine S_ ?_;refine B5 2 mixed K_ rfl rfl rfl ?_;exact h.out):g:=h ⟨k⟩
theorem QO(k:r)(h:Hid r→g:=by intro h;refine ABA rfl rfl rfl rfl underlying23 Bt Iz Wg MN_ rfl AT rfl ?_;exact h.out):g:=h ⟨k⟩
theorem vf(pub text:AA 8)(tn tcap:Nat)(sig:AA 8)(_hpub:pub.length=32)(htext:text.length=tn)(htn:tn≤65536)(hsig:sig.length=64)(hB:Ga (cut sig 32 32)=false):Ev prog (.call 59 [BM (pub),.c (.sl 0 0 tn tcap 1),BM (sig)] [A0 (text)]) (.val (.c (.val (.bool (false)))) [A0 (text)]):=by
 subst htext
 refine ig ?_;refine BO ?_;refine Ai ?_;refine Dr ?_;refine Lh ?_;have hQ1:(cut sig 0 32).length=32:=AP
 refine Qn ?_;refine FI ?_;refine QQ ?_;refine BJ ?_;refine QO ?_;refine AR ?_;have hQ2:(cut sig 32 32).length=32:=AP
 refine Qn ?_;refine FI ?_;refine Sh ?_;refine BJ ?_;refine QO ?_;refine Fu ?_;refine Ae (QL (cut sig 32 32) false AD hB) tR ?_;refine FN ?_;refine B0 ?_;exact CF
theorem kE(k:r)(h:Hid r→g:=by intro h;refine aS 10 8 mixed K_ K_ rfl rfl rfl ?_;exact h.out):g:=h ⟨k⟩
theorem uD(pub text:AA 8)(tn tcap:Nat)(sig:AA 8)(hpub:pub.length=32)(htext:text.length=tn)(htn:tn≤65536)(hsig:sig.length=64)(hB:Ga (cut sig 32 32)=true)(hr:CP (cut sig 0 32)=true)(hp:CP pub=false):Ev prog (.call 59 [BM (pub),.c (.sl 0 0 tn tcap 1),BM (sig)] [A0 (text)]) (.val (.c (.val (.bool (false)))) [A0 (text)]):=by
 subst htext
 refine ig ?_;refine BO ?_;refine Ai ?_;refine Dr ?_;refine Lh ?_;have hQ1:(cut sig 0 32).length=32:=AP
 refine Qn ?_;refine FI ?_;refine QQ ?_;refine BJ ?_;refine QO ?_;refine AR ?_;have hQ2:(cut sig 32 32).length=32:=AP
 refine Qn ?_;refine FI ?_;refine Sh ?_;refine BJ ?_;refine QO ?_;refine Fu ?_;refine Ae (QL (cut sig 32 32) true AD hB) tR ?_;refine UA ?_;have hQ3:(Nb (cut sig 0 32)).length=16:=AP
 refine Bg ?_;refine Ae (bj (cut sig 0 32) true AD hr) YX ?_;refine Ch ?_;refine Gu ?_;refine Fo ?_;refine BF ?_;refine UA ?_;have hQ4:(C8 (cut sig 0 32) pub text).length=32:=AP
 have hQ5:(Td).length=32:=AP
 refine S_ ?_;refine kE ?_;refine Cn ?_;refine Cn ?_;refine AW ?_;refine Hw (Ah (bs:=[0]) (aU (cut sig 0 32) pub text text.length tcap AD AD AD AD) AEg K_ K_ rfl B4) AT rfl ?_;refine Cn ?_;refine AO (wG (C8 (cut sig 0 32) pub text) pub AD AD hp) AEI ?_;refine Hd ?_;refine I5 ?_;refine I8 ?_;refine BF ?_;refine FN ?_;refine B0 ?_;exact CF
theorem uH(pub text:AA 8)(tn tcap:Nat)(sig:AA 8)(_hpub:pub.length=32)(htext:text.length=tn)(htn:tn≤65536)(hsig:sig.length=64)(hB:Ga (cut sig 32 32)=true)(hr:CP (cut sig 0 32)=false):Ev prog (.call 59 [BM (pub),.c (.sl 0 0 tn tcap 1),BM (sig)] [A0 (text)]) (.val (.c (.val (.bool (false)))) [A0 (text)]):=by
 subst htext
 refine ig ?_;refine BO ?_;refine Ai ?_;refine Dr ?_;refine Lh ?_;have hQ1:(cut sig 0 32).length=32:=AP
 refine Qn ?_;refine FI ?_;refine QQ ?_;refine BJ ?_;refine QO ?_;refine AR ?_;have hQ2:(cut sig 32 32).length=32:=AP
 refine Qn ?_;refine FI ?_;refine Sh ?_;refine BJ ?_;refine QO ?_;refine Fu ?_;refine Ae (QL (cut sig 32 32) true AD hB) tR ?_;refine UA ?_;have hQ3:(Nb (cut sig 0 32)).length=16:=AP
 refine Bg ?_;refine Ae (bj (cut sig 0 32) false AD hr) YX ?_;refine Ch ?_;refine Gu ?_;refine Fo ?_;refine BF ?_;refine FN ?_;refine B0 ?_;exact CF
theorem uN(pub text:AA 8)(tn tcap:Nat)(sig:AA 8)(hpub:pub.length=32)(htext:text.length=tn)(htn:tn≤65536)(hsig:sig.length=64)(hB:Ga (cut sig 32 32)=true)(hr:CP (cut sig 0 32)=true)(hp:CP pub=true):Ev prog (.call 59 [BM (pub),.c (.sl 0 0 tn tcap 1),BM (sig)] [A0 (text)]) (.val (.c (.val (.bool (decide (F4 (cut sig 0 32) (Dc (C8 (cut sig 0 32) pub text) pub)=enc (oB (cut sig 32 32))))))) [A0 (text)]):=by
 subst htext
 refine ig ?_;refine BO ?_;refine Ai ?_;refine Dr ?_;refine Lh ?_;have hQ1:(cut sig 0 32).length=32:=AP
 refine Qn ?_;refine FI ?_;refine QQ ?_;refine BJ ?_;refine QO ?_;refine AR ?_;have hQ2:(cut sig 32 32).length=32:=AP
 refine Qn ?_;refine FI ?_;refine Sh ?_;refine BJ ?_;refine QO ?_;refine Fu ?_;refine Ae (QL (cut sig 32 32) true AD hB) tR ?_;refine UA ?_;have hQ3:(Nb (cut sig 0 32)).length=16:=AP
 refine Bg ?_;refine Ae (bj (cut sig 0 32) true AD hr) YX ?_;refine Ch ?_;refine Gu ?_;refine Fo ?_;refine BF ?_;refine UA ?_;have hQ4:(C8 (cut sig 0 32) pub text).length=32:=AP
 have hQ5:(Dc (C8 (cut sig 0 32) pub text) pub).length=32:=AP
 refine S_ ?_;refine kE ?_;refine Cn ?_;refine Cn ?_;refine AW ?_;refine Hw (Ah (bs:=[0]) (aU (cut sig 0 32) pub text text.length tcap AD AD AD AD) AEg K_ K_ rfl B4) AT rfl ?_;refine Cn ?_;refine AO (AF5 (C8 (cut sig 0 32) pub text) pub AD AD hp) AEI ?_;refine Hd ?_;refine I5 ?_;refine I8 ?_;refine BF ?_;refine UA ?_;have hQ6:(F4 (cut sig 0 32) (Dc (C8 (cut sig 0 32) pub text) pub)).length=32:=AP
 refine Bg ?_;refine GM ?_;refine CQ (Ah (bs:=[]) (AFB (cut sig 0 32) (Dc (C8 (cut sig 0 32) pub text) pub) AD AD hr (mi _ _ hpub hp)) AIW K_ K_ rfl B4) AT rfl ?_;refine Ch ?_;refine Gr ?_;refine AR ?_;have hQ7:(enc (oB (cut sig 32 32))).length=32:=AP
 refine In ?_;refine Cn ?_;refine Cn ?_;refine AO (AGs (cut sig 32 32) AD) AFa ?_;refine oW ?_;refine I7 ?_;exact CF
theorem ABo(pub text:AA 8)(tn tcap:Nat)(sig:AA 8)(hpub:pub.length=32)(htext:text.length=tn)(hsig:sig.length=64)(hn:tn≤65536):Ev prog (.call 59 [BM pub,.c (.sl 0 0 tn tcap 1),BM sig] [A0 text]) (.val (.c (.val (.bool (Zz pub text sig)))) [A0 text]):=by
 cases hB:Ga (cut sig 32 32) with
 |false=>
  rw [show Zz pub text sig=false by unfold Zz;rw [hB,Bool.false_and]]
  exact vf pub text tn tcap sig hpub htext hn hsig hB
 |true=>
  cases hr:CP (cut sig 0 32) with
  |false=>
   rw [show Zz pub text sig=false by unfold Zz;rw [hB,hr,Bool.false_and,Bool.and_false,Bool.and_false]]
   exact uH pub text tn tcap sig hpub htext hn hsig hB hr
  |true=>
   cases hp:CP pub with
   |false=>
    rw [show Zz pub text sig=false by unfold Zz;rw [hB,hp,Bool.false_and,Bool.and_false]]
    exact uD pub text tn tcap sig hpub htext hn hsig hB hr hp
   |true=>
    rw [show Zz pub text sig=decide (F4 (cut sig 0 32) (Dc (C8 (cut sig 0 32) pub text) pub)=enc (oB (cut sig 32 32))) by unfold Zz;rw [hB,hp,hr,Bool.true_and,Bool.true_and,Bool.true_and]]
    exact uN pub text tn tcap sig hpub htext hn hsig hB hr hp
def shE(key place:AA 8):Nat:=if aB key place=Ac 32 then 5 else 0
theorem mO(key place:AA 8)(hkey:key.length=32)(hplace:place.length=32):Ev prog (.call 79 [BM key,BM place] []) (.val (.tup [BM (aB key place),At ((shE key place:Nat):Int)]) []):=by
 have hl:(aB key place).length=32:=jj key place
 have hP:=AGB key place hkey hplace
 unfold shE
 generalize aB key place=u at*
 refine AI func79 rfl ntmps79 rfl AM ?_;refine BO ?_;refine Dr ?_;refine Ai ?_;refine GM ?_;refine GM ?_;refine Ae (hP) AGd ?_;refine Gf ?_;refine Fu ?_;refine Wh ?_;refine AB (ir rfl rfl underlying37 underlying5 Bt B7 B7) rfl ?_;refine AR ?_;by_cases hz:u=Ac 32
 ·rw [if_pos hz]
  refine Q_ ?_;refine FJ rfl (decide_eq_true hz) ?_;refine Bg ?_;refine Gr ?_;refine Al ?_;exact Ll
 ·rw [if_neg hz]
  refine Q_ ?_;refine Cg rfl (decide_eq_false hz) ?_;refine Bg ?_;refine Gr ?_;refine Al ?_;exact Ll
def cj:AA 8:=[98#8,111#8,120#8]
def wl(key place:AA 8):AA 8:=Fv cj (aB key place)
@[simp] theorem jV(key place:AA 8):(wl key place).length=32:=by
 unfold wl;rw [Rn];unfold mA;exact CI _
theorem xa(k:r)(h:Hid r→g:=by intro h;refine Ap (fN (l:=[98#8,111#8,120#8]) underlying23 KM rfl rfl D_ D_ AM) AT rfl ?_;exact h.out):g:=h ⟨k⟩
theorem kW(key place:AA 8)(hkey:key.length=32)(hplace:place.length=32):Ev prog (.call 55 [BM key,BM place] []) (.val (.tup [BM (if aB key place=Ac 32 then Ac 32 else wl key place),At ((shE key place:Nat):Int)]) []):=by
 have hl:(aB key place).length=32:=jj key place
 have hk:(wl key place).length=32:=jV key place
 have hP:=mO key place hkey hplace
 have hM:=tw cj 3 3 (aB key place) 32 32 rfl D_ hl D_
 rw [show Fv cj (aB key place)=wl key place from rfl] at hM
 unfold shE at*
 generalize aB key place=u at*
 generalize wl key place=q at*
 unfold cj at hM
 by_cases hz:u=Ac 32
 ·rw [if_pos hz] at hP ⊢
  rw [if_pos hz]
  refine AI func55 rfl ntmps55 rfl AM ?_;refine BO ?_;refine Dr ?_;refine Ai ?_;refine GM ?_;refine GM ?_;refine Ae (hP) AEY ?_;refine Ch ?_;refine Gf ?_;refine BF ?_;refine Jm ?_;refine AZ ?_;refine Wh ?_;refine AX ?_;refine Gr ?_;refine Al ?_;exact Ll
 ·rw [if_neg hz] at hP ⊢
  rw [if_neg hz]
  refine AI func55 rfl ntmps55 rfl AM ?_;refine BO ?_;refine Dr ?_;refine Ai ?_;refine GM ?_;refine GM ?_;refine Ae (hP) AEY ?_;refine Ch ?_;refine Gf ?_;refine BF ?_;refine Jm ?_;refine AZ ?_;refine xa ?_;refine yS rfl underlying23 underlying5 rfl rfl D_ AM AT rfl ?_;refine O5 ?_;refine CQ (Ah (bs:=[5,3]) (hM) AIu K_ K_ rfl B4) AT rfl ?_;refine Gr ?_;refine Al ?_;exact Ll
def uL(key box:AA 8):List (AA 8)×Nat:=
 if box.length<48 then ([],2) else if aB key (box.take 32)=Ac 32 then ([],5) else kJ (wl key (box.take 32)) (box.drop 32)
theorem aX(k:r)(h:Hid r→g:=by intro h;refine AB (A8 (b:=48) rfl rfl) rfl ?_;exact h.out):g:=h ⟨k⟩
theorem qB(k:r)(h:Hid r→g:=by intro h;refine AH (qe (h:=32) rfl rfl underlying23 Bt Wg) rfl ?_;exact h.out):g:=h ⟨k⟩
theorem ik(k:r)(h:Hid r→g:=by intro h;refine AH (pi rfl underlying37 O_ D_) rfl ?_;exact h.out):g:=h ⟨k⟩
theorem gE(k:r)(h:Hid r→g:=by intro h;refine AH (bf rfl QH Pg O_ D_) rfl ?_;exact h.out):g:=h ⟨k⟩
theorem Uv(k:r)(h:Hid r→g:=by intro h;refine AH (Xj (l:=32) rfl rfl underlying23 Bt Wg) rfl ?_;exact h.out):g:=h ⟨k⟩
theorem pB(key box:AA 8)(hkey:key.length=32)(hbn:box.length≤1099511627):Ev prog (.call 28 [BM key,.c (.bs box)] []) (.val (.tup [.c (.sl 0 0 (uL key box).1.length (uL key box).1.length 1),At (((uL key box).2:Nat):Int)]) [.row true (.ab (uL key box).1)]):=by
 unfold uL
 by_cases h48:box.length<48
 ·rw [if_pos h48]
  refine AI func28 rfl ntmps28 rfl AM ?_;refine BA ?_;refine FB ?_;refine DJ ?_;refine aX ?_;refine KP ?_;refine EU 4 1 (.ab []) rfl rfl AM rfl ?_;exact En
 rw [if_neg h48]
 have ht:(box.take 32).length=32:=by simp;omega
 have hd:(box.drop 32).length=box.length-32:=by simp
 have hS:=kW key (box.take 32) hkey ht
 have hkl:=jV key (box.take 32)
 have hO:=YA (wl key (box.take 32)) (box.drop 32) hkl O_
 unfold shE at hS
 generalize kJ (wl key (box.take 32)) (box.drop 32)=r at*
 generalize wl key (box.take 32)=q at*
 by_cases hz:aB key (box.take 32)=Ac 32
 ·rw [if_pos hz]
  rw [if_pos hz,if_pos hz] at hS
  refine AI func28 rfl ntmps28 rfl AM ?_;refine BA ?_;refine FB ?_;refine DJ ?_;refine aX ?_;refine Ar ?_;refine kE ?_;refine Cn ?_;refine AW ?_;refine qB ?_;refine ik ?_;refine gE ?_;refine AO (hS) AD4 ?_;refine Hd ?_;refine I5 ?_;refine I8 ?_;refine BF ?_;refine Jm ?_;refine Ak ?_;refine Np ?_;refine EU 4 1 (.ab []) rfl rfl AM rfl ?_;exact En
 ·rw [if_neg hz]
  rw [if_neg hz,if_neg hz] at hS
  refine AI func28 rfl ntmps28 rfl AM ?_;refine BA ?_;refine FB ?_;refine DJ ?_;refine aX ?_;refine Ar ?_;refine kE ?_;refine Cn ?_;refine AW ?_;refine qB ?_;refine ik ?_;refine gE ?_;refine AO (hS) AD4 ?_;refine Hd ?_;refine I5 ?_;refine I8 ?_;refine BF ?_;refine Jm ?_;refine Ar ?_;refine SG ?_;refine Cn ?_;refine AW ?_;refine Uv ?_;refine AO (hO) zv ?_;refine Xh ?_;refine Xh ?_;refine I6 ?_;refine I7 ?_;exact UE
def ua(pub sig:AA 8):List (AA 8)×Nat:=
 if pub.length≠64∨sig.length<64 then ([],2) else if Zz (pub.drop 32) (sig.drop 64) (sig.take 64)=true then bd (sig.drop 64) else ([],15)
theorem ACu(pub text sig:AA 8)(hpub:pub.length=32)(hsig:sig.length=64)(hn:text.length≤65536):Ev prog (.call 58 [BM pub,.c (.bs text),BM sig] []) (.val (.c (.val (.bool (Zz pub text sig)))) []):=
 Ev.partsB (m:=[]) (m':=[.row false (.a8 text)]) (N:=[]) (N':=[]) [none] [0] (.no .nil) (.agg rfl (.c (.same rfl) (.agg rfl .nil))) (.same (.bs rfl rfl (.same .nil))) rfl rfl (AB3 pub text text.length text.length sig hpub rfl hsig hn) rfl rfl
theorem ABS(pub text sig:AA 8)(hpub:pub.length=32)(hsig:sig.length=64)(hn:text.length≤65536):Ev prog (.call 59 [BM pub,.c (.bs text),BM sig] []) (.val (.c (.val (.bool (Zz pub text sig)))) []):=
 Ev.partsB (m:=[]) (m':=[.row false (.a8 text)]) (N:=[]) (N':=[]) [none] [0] (.no .nil) (.agg rfl (.c (.same rfl) (.agg rfl .nil))) (.same (.bs rfl rfl (.same .nil))) rfl rfl (ABo pub text text.length text.length sig hpub rfl hsig hn) rfl rfl
theorem jY(k:r)(h:Hid r→g:=by intro h;refine AI func30 rfl ntmps30 rfl AM ?_;exact h.out):g:=h ⟨k⟩
theorem QU(k:r)(h:Hid r→g:=by intro h;refine AB (Ko (b:=64) rfl rfl) rfl ?_;exact h.out):g:=h ⟨k⟩
theorem bE(k:r)(h:Hid r→g:=by intro h;refine AH (Xj (l:=64) rfl rfl underlying23 Bt Wg) rfl ?_;exact h.out):g:=h ⟨k⟩
theorem cU(k:r)(h:Hid r→g:=by intro h;refine AH (qe (h:=64) rfl rfl underlying23 Bt Wg) rfl ?_;exact h.out):g:=h ⟨k⟩
theorem pK(k:r)(h:Hid r→g:=by intro h;refine AB (Xj (l:=64) rfl rfl underlying23 Bt Wg) rfl ?_;exact h.out):g:=h ⟨k⟩
theorem mK(pub sig:AA 8)(_hpn:pub.length≤1099511627)(hsn:sig.length≤65600):Ev prog (.call 30 [.c (.bs pub),.c (.bs sig)] []) (.val (.tup [.c (.sl 0 0 (ua pub sig).1.length (ua pub sig).1.length 1),At (((ua pub sig).2:Nat):Int)]) [.row true (.ab (ua pub sig).1)]):=by
 unfold ua
 by_cases h1:pub.length≠64
 ·rw [if_pos (.inl h1)]
  refine jY ?_;refine Jh ?_;refine DJ ?_;refine QU ?_;refine AX ?_;refine SN ?_;refine bB FR rfl ?_;refine HZ ?_;refine Ai ?_;refine Np ?_;refine EU 4 1 (.ab []) rfl rfl AM rfl ?_;exact En
 have h1':pub.length=64:=by omega
 by_cases h2:sig.length<64
 ·rw [if_pos (.inr h2)]
  refine jY ?_;refine Jh ?_;refine DJ ?_;refine QU ?_;refine E9 ?_;refine Kf ?_;refine HM ?_;refine Dm ?_;refine Ai ?_;refine Np ?_;refine EU 4 1 (.ab []) rfl rfl AM rfl ?_;exact En
 rw [if_neg O_]
 have hp:(pub.drop 32).length=32:=by simp;omega
 have hs:(sig.take 64).length=64:=by simp;omega
 have hd:(sig.drop 64).length=sig.length-64:=by simp
 have hV:=ACu (pub.drop 32) (sig.drop 64) (sig.take 64) hp hs O_
 have hS:=cA (sig.drop 64) O_
 generalize bd (sig.drop 64)=r at*
 generalize Zz (pub.drop 32) (sig.drop 64) (sig.take 64)=v at*
 cases v with
 |false=>
  rw [if_neg D_]
  refine jY ?_;refine Jh ?_;refine DJ ?_;refine QU ?_;refine E9 ?_;refine Kf ?_;refine HM ?_;refine Dm ?_;refine Al ?_;refine B5 13 mixed K_ rfl rfl rfl ?_;refine AW ?_;refine Uv ?_;refine ik ?_;refine gE ?_;refine AW ?_;refine bE ?_;refine AW ?_;refine cU ?_;refine AH (pi rfl underlying105 O_ D_) rfl ?_;refine AH (bf rfl WL XQ O_ D_) rfl ?_;refine AO (hV) AEO ?_;refine Kp ?_;refine Ft ?_;refine KP ?_;refine EU 4 1 (.ab []) rfl rfl AM rfl ?_;exact En
 |true=>
  rw [if_pos rfl]
  refine jY ?_;refine Jh ?_;refine DJ ?_;refine QU ?_;refine E9 ?_;refine Kf ?_;refine HM ?_;refine Dm ?_;refine Al ?_;refine B5 13 mixed K_ rfl rfl rfl ?_;refine AW ?_;refine Uv ?_;refine ik ?_;refine gE ?_;refine AW ?_;refine bE ?_;refine AW ?_;refine cU ?_;refine AH (pi rfl underlying105 O_ D_) rfl ?_;refine AH (bf rfl WL XQ O_ D_) rfl ?_;refine AO (hV) AEO ?_;refine Kp ?_;refine Ft ?_;refine Ak ?_;refine pK ?_;refine Ae (hS) AEX ?_;refine RX ?_;refine RX ?_;exact He
def v5(l:AA 64):Nat:=(nth l 0).toNat+67108864*(nth l 1).toNat+4503599627370496*(nth l 2).toNat+302231454903657293676544*(nth l 3).toNat+20282409603651670423947251286016*(nth l 4).toNat
def below(B:Nat)(l:AA 64):Prop:=(nth l 0).toNat<B∧(nth l 1).toNat<B∧(nth l 2).toNat<B∧(nth l 3).toNat<B∧(nth l 4).toNat<B
theorem ADh(x:BitVec 64):(x&&&67108863#64).toNat=x.toNat%67108864:=by
 rw [BitVec.toNat_and]
 exact Nat.and_two_pow_sub_one_eq_mod x.toNat 26
theorem nG(x:BitVec 64):(x>>>26).toNat=x.toNat/67108864:=by
 rw [BitVec.toNat_ushiftRight,Nat.shiftRight_eq_div_pow]
theorem BK{n:Nat}(x y:BitVec n)(h:x.toNat+y.toNat<2^n):(x+y).toNat=x.toNat+y.toNat:=by rw [BitVec.toNat_add,Nat.mod_eq_of_lt h]
theorem PB{n:Nat}(x y:BitVec n)(h:x.toNat*y.toNat<2^n):(x*y).toNat=x.toNat*y.toNat:=by rw [BitVec.toNat_mul,Nat.mod_eq_of_lt h]
theorem Pk{l:AA 64}(h:l.length=5):∃a b c d e,l=[a,b,c,d,e]:=by
 match l,h with
 |[a,b,c,d,e],_=>exact ⟨a,b,c,d,e,rfl⟩
structure rR(x0 x1 x2 x3 x4 y0 y1 y2 y3 y4 c1 c2 c3 c4 c5:Nat):Prop where
 h0:x0=y0+67108864*c1∧y0<67108864
 h1:x1+c1=y1+67108864*c2∧y1<67108864
 h2:x2+c2=y2+67108864*c3∧y2<67108864
 h3:x3+c3=y3+67108864*c4∧y3<67108864
 h4:x4+c4=y4+67108864*c5∧y4<67108864
theorem JP(x c:BitVec 64)(h:x.toNat+c.toNat<2^64):x.toNat+c.toNat=((x+c)&&&67108863#64).toNat+67108864*((x+c)>>>26).toNat∧((x+c)&&&67108863#64).toNat<67108864:=by
 rw [ADh,nG,BK _ _ h]
 omega
theorem lf(a b c d e:BitVec 64)(h:below 9223372036854775808 [a,b,c,d,e]):
  ∃(y0 y1 y2 y3 y4 k:BitVec 64) (c1 c2 c3 c4:Nat),Bc [a,b,c,d,e] 5=([y0,y1,y2,y3,y4],k)∧rR a.toNat b.toNat c.toNat d.toNat e.toNat y0.toNat y1.toNat y2.toNat y3.toNat y4.toNat c1 c2 c3 c4 k.toNat:=by
 obtain ⟨ha,hb,hc,hd,he⟩:=h
 have ha:a.toNat<9223372036854775808:=ha
 have hb:b.toNat<9223372036854775808:=hb
 have hc:c.toNat<9223372036854775808:=hc
 have hd:d.toNat<9223372036854775808:=hd
 have he:e.toNat<9223372036854775808:=he
 have s0:a.toNat=((a+0#64)&&&67108863#64).toNat+67108864*((a+0#64)>>>26).toNat∧((a+0#64)&&&67108863#64).toNat<67108864:=JP a 0#64 (by simp;omega)
 have b0:=nG (a+0#64)
 rw [BK a 0#64 (by simp;omega)] at b0
 have s1:=JP b ((a+0#64)>>>26) O_
 have b1:=nG (b+(a+0#64)>>>26)
 rw [BK b _ O_] at b1
 have s2:=JP c ((b+(a+0#64)>>>26)>>>26) O_
 have b2:=nG (c+(b+(a+0#64)>>>26)>>>26)
 rw [BK c _ O_] at b2
 have s3:=JP d ((c+(b+(a+0#64)>>>26)>>>26)>>>26) O_
 have b3:=nG (d+(c+(b+(a+0#64)>>>26)>>>26)>>>26)
 rw [BK d _ O_] at b3
 have s4:=JP e ((d+(c+(b+(a+0#64)>>>26)>>>26)>>>26)>>>26) O_
 exact ⟨_,_,_,_,_,_,_,_,_,_,rfl,⟨s0,s1,s2,s3,s4⟩⟩
theorem Tz(a b c d e:BitVec 64)(h:below 4611686018427387904 [a,b,c,d,e]):
  ∃(y0 y1 y2 y3 y4 k w:BitVec 64) (c1 c2 c3 c4:Nat),Av [a,b,c,d,e]=[w,y1,y2,y3,y4]∧rR a.toNat b.toNat c.toNat d.toNat e.toNat y0.toNat y1.toNat y2.toNat y3.toNat y4.toNat c1 c2 c3 c4 k.toNat∧w.toNat=y0.toNat+5*k.toNat:=by
 have hb:below 9223372036854775808 [a,b,c,d,e]:=by
  unfold below at*
  omega
 obtain ⟨y0,y1,y2,y3,y4,k,c1,c2,c3,c4,he,hc⟩:=lf a b c d e hb
 refine ⟨y0,y1,y2,y3,y4,k,y0+5#64*k,c1,c2,c3,c4,?_,hc,?_⟩
 ·rw [mb,he];rfl
 ·obtain ⟨h0,h1,h2,h3,h4⟩:=hc
  obtain ⟨ha,hb,hc,hd,he⟩:=h
  have ha:a.toNat<4611686018427387904:=ha
  have hb:b.toNat<4611686018427387904:=hb
  have hc:c.toNat<4611686018427387904:=hc
  have hd:d.toNat<4611686018427387904:=hd
  have he:e.toNat<4611686018427387904:=he
  have hk:k.toNat≤68719480000:=by omega
  have h5:(5#64*k).toNat=5*k.toNat:=by rw [PB _ _ (by simp;omega)];rfl
  rw [BK _ _ (by rw [h5];omega),h5]
theorem PG(a b c d e:BitVec 64):v5 [a,b,c,d,e]=a.toNat+67108864*b.toNat+4503599627370496*c.toNat+302231454903657293676544*d.toNat+20282409603651670423947251286016*e.toNat:=rfl
def pP:Nat:=1361129467683753853853498429727072845819
def FO(F:Nat)(l:AA 64):Prop:=(nth l 0).toNat<F∧(nth l 1).toNat<67108864∧(nth l 2).toNat<67108864∧(nth l 3).toNat<67108864∧(nth l 4).toNat<67108864
def Over(x y:Nat):Prop:= ∃k,x=y+k*pP
theorem Over.mod{x y:Nat}(h:Over x y):x%pP=y%pP:=by obtain ⟨k,rfl⟩:=h;rw [Nat.add_mul_mod_self_right]
theorem PZ(l:AA 64)(hl:l.length=5)(h:below 4611686018427387904 l):Over (v5 l) (v5 (Av l)):=by
 obtain ⟨a,b,c,d,e,rfl⟩:=Pk hl
 obtain ⟨y0,y1,y2,y3,y4,k,w,c1,c2,c3,c4,hE,⟨h0,h1,h2,h3,h4⟩,hw⟩:=Tz a b c d e h
 refine ⟨k.toNat,?_⟩
 rw [hE,PG,PG,hw]
 unfold pP
 omega
theorem vr(l:AA 64)(hl:l.length=5)(h:below 1152921504606846976 l):FO 171866194000 (Av l):=by
 obtain ⟨a,b,c,d,e,rfl⟩:=Pk hl
 obtain ⟨y0,y1,y2,y3,y4,k,w,c1,c2,c3,c4,hE,⟨h0,h1,h2,h3,h4⟩,hw⟩:=Tz a b c d e (by unfold below at*;omega)
 obtain ⟨ha,hb,hc,hd,he⟩:=h
 have ha:a.toNat<1152921504606846976:=ha
 have hb:b.toNat<1152921504606846976:=hb
 have hc:c.toNat<1152921504606846976:=hc
 have hd:d.toNat<1152921504606846976:=hd
 have he:e.toNat<1152921504606846976:=he
 rw [hE]
 refine ⟨?_,h1.2,h2.2,h3.2,h4.2⟩
 show w.toNat<_
 omega
theorem uf(l:AA 64)(hl:l.length=5)(h:FO 171866194000 l):FO 67108869 (Av l):=by
 obtain ⟨a,b,c,d,e,rfl⟩:=Pk hl
 obtain ⟨y0,y1,y2,y3,y4,k,w,c1,c2,c3,c4,hE,⟨h0,h1,h2,h3,h4⟩,hw⟩:=Tz a b c d e (by unfold below;unfold FO at h;omega)
 obtain ⟨ha,hb,hc,hd,he⟩:=h
 have ha:a.toNat<171866194000:=ha
 have hb:b.toNat<67108864:=hb
 have hc:c.toNat<67108864:=hc
 have hd:d.toNat<67108864:=hd
 have he:e.toNat<67108864:=he
 rw [hE]
 refine ⟨?_,h1.2,h2.2,h3.2,h4.2⟩
 show w.toNat<_
 omega
theorem R9(l:AA 64)(hl:l.length=5)(h:FO 67108869 l):FO 67108864 (Av l):=by
 obtain ⟨a,b,c,d,e,rfl⟩:=Pk hl
 obtain ⟨y0,y1,y2,y3,y4,k,w,c1,c2,c3,c4,hE,⟨h0,h1,h2,h3,h4⟩,hw⟩:=Tz a b c d e (by unfold below;unfold FO at h;omega)
 obtain ⟨ha,hb,hc,hd,he⟩:=h
 have ha:a.toNat<67108869:=ha
 have hb:b.toNat<67108864:=hb
 have hc:c.toNat<67108864:=hc
 have hd:d.toNat<67108864:=hd
 have he:e.toNat<67108864:=he
 rw [hE]
 refine ⟨?_,h1.2,h2.2,h3.2,h4.2⟩
 show w.toNat<_
 omega
theorem ACh (a0 a1 a2 a3 a4 b0 b1 b2 b3 b4 : BitVec 64) : Iy [a0, a1, a2, a3, a4] [b0, b1, b2, b3, b4] 5 = [(((((0#64 + a0 * b0) + a1 * b4 * 5#64) + a2 * b3 * 5#64) + a3 * b2 * 5#64) + a4 * b1 * 5#64),
    (((((0#64 + a0 * b1) + a1 * b0) + a2 * b4 * 5#64) + a3 * b3 * 5#64) + a4 * b2 * 5#64),
    (((((0#64 + a0 * b2) + a1 * b1) + a2 * b0) + a3 * b4 * 5#64) + a4 * b3 * 5#64),
    (((((0#64 + a0 * b3) + a1 * b2) + a2 * b1) + a3 * b0) + a4 * b4 * 5#64),
    (((((0#64 + a0 * b4) + a1 * b3) + a2 * b2) + a3 * b1) + a4 * b0)] := by kernel_rfl
theorem B6(x y:BitVec 64)(hx:x.toNat<268435456)(hy:y.toNat<67108864):(x*y).toNat=x.toNat*y.toNat∧x.toNat*y.toNat<18014398509481984:=by
 have h:=Nat.mul_lt_mul'' hx hy
 exact ⟨PB _ _ O_,h⟩
theorem G9(x y:BitVec 64)(hx:x.toNat<268435456)(hy:y.toNat<67108864):(x*y*5#64).toNat=5*(x.toNat*y.toNat):=by
 obtain ⟨h1,h2⟩:=B6 x y hx hy
 rw [PB _ _ (by rw [h1];show _*5<_;omega),h1,Nat.mul_comm]
 rfl
theorem S4(x0 x1 x2 x3 x4:BitVec 64)(B:Nat)(hB:B≤144115188075855872)(h0:x0.toNat<B)(h1:x1.toNat<B)(h2:x2.toNat<B)(h3:x3.toNat<B)(h4:x4.toNat<B):
  (((((0#64+x0)+x1)+x2)+x3)+x4).toNat=x0.toNat+x1.toNat+x2.toNat+x3.toNat+x4.toNat:=by
 have e0:(0#64+x0).toNat=x0.toNat:=by simp
 rw [BK _ _ (by rw [BK _ _ (by rw [BK _ _ (by rw [BK _ _ O_];omega),BK _ _ O_];omega),BK _ _ (by rw [BK _ _ O_];omega),BK _ _ O_];omega),
  BK _ _ (by rw [BK _ _ (by rw [BK _ _ O_];omega),BK _ _ O_];omega),BK _ _ (by rw [BK _ _ O_];omega),BK _ _ O_,e0]
theorem AK1(a0 a1 a2 a3 a4 b0 b1 b2 b3 b4:Nat):(1*a0+67108864*a1+4503599627370496*a2+302231454903657293676544*a3+20282409603651670423947251286016*a4)*(1*b0+67108864*b1+4503599627370496*b2+302231454903657293676544*b3+20282409603651670423947251286016*b4)=
  1*(a0*b0)+67108864*(a0*b1)+4503599627370496*(a0*b2)+302231454903657293676544*(a0*b3)+20282409603651670423947251286016*(a0*b4)+67108864*(a1*b0)+4503599627370496*(a1*b1)+302231454903657293676544*(a1*b2)+20282409603651670423947251286016*(a1*b3)+1361129467683753853853498429727072845824*(a1*b4)+4503599627370496*(a2*b0)+302231454903657293676544*(a2*b1)+20282409603651670423947251286016*(a2*b2)+1361129467683753853853498429727072845824*(a2*b3)+91343852333181432387730302044767688728495783936*(a2*b4)+302231454903657293676544*(a3*b0)+20282409603651670423947251286016*(a3*b1)+1361129467683753853853498429727072845824*(a3*b2)+91343852333181432387730302044767688728495783936*(a3*b3)+6129982163463555433433388108601236734474956488734408704*(a3*b4)+20282409603651670423947251286016*(a4*b0)+1361129467683753853853498429727072845824*(a4*b1)+91343852333181432387730302044767688728495783936*(a4*b2)+6129982163463555433433388108601236734474956488734408704*(a4*b3)+411376139330301510538742295639337626245683966408394965837152256*(a4*b4):=by
 simp only [Nat.add_mul,Nat.mul_add]
 rw [Nat.mul_mul_mul_comm 1 a0 1 b0]
 rw [Nat.mul_mul_mul_comm 1 a0 67108864 b1]
 rw [Nat.mul_mul_mul_comm 1 a0 4503599627370496 b2]
 rw [Nat.mul_mul_mul_comm 1 a0 302231454903657293676544 b3]
 rw [Nat.mul_mul_mul_comm 1 a0 20282409603651670423947251286016 b4]
 rw [Nat.mul_mul_mul_comm 67108864 a1 1 b0]
 rw [Nat.mul_mul_mul_comm 67108864 a1 67108864 b1]
 rw [Nat.mul_mul_mul_comm 67108864 a1 4503599627370496 b2]
 rw [Nat.mul_mul_mul_comm 67108864 a1 302231454903657293676544 b3]
 rw [Nat.mul_mul_mul_comm 67108864 a1 20282409603651670423947251286016 b4]
 rw [Nat.mul_mul_mul_comm 4503599627370496 a2 1 b0]
 rw [Nat.mul_mul_mul_comm 4503599627370496 a2 67108864 b1]
 rw [Nat.mul_mul_mul_comm 4503599627370496 a2 4503599627370496 b2]
 rw [Nat.mul_mul_mul_comm 4503599627370496 a2 302231454903657293676544 b3]
 rw [Nat.mul_mul_mul_comm 4503599627370496 a2 20282409603651670423947251286016 b4]
 rw [Nat.mul_mul_mul_comm 302231454903657293676544 a3 1 b0]
 rw [Nat.mul_mul_mul_comm 302231454903657293676544 a3 67108864 b1]
 rw [Nat.mul_mul_mul_comm 302231454903657293676544 a3 4503599627370496 b2]
 rw [Nat.mul_mul_mul_comm 302231454903657293676544 a3 302231454903657293676544 b3]
 rw [Nat.mul_mul_mul_comm 302231454903657293676544 a3 20282409603651670423947251286016 b4]
 rw [Nat.mul_mul_mul_comm 20282409603651670423947251286016 a4 1 b0]
 rw [Nat.mul_mul_mul_comm 20282409603651670423947251286016 a4 67108864 b1]
 rw [Nat.mul_mul_mul_comm 20282409603651670423947251286016 a4 4503599627370496 b2]
 rw [Nat.mul_mul_mul_comm 20282409603651670423947251286016 a4 302231454903657293676544 b3]
 rw [Nat.mul_mul_mul_comm 20282409603651670423947251286016 a4 20282409603651670423947251286016 b4]
 omega
theorem ABd(a b:AA 64)(ha:a.length=5)(hb:b.length=5)(hA:below 268435456 a)(hB:below 67108864 b):Over (v5 a*v5 b) (v5 (Iy a b 5))∧below 1152921504606846976 (Iy a b 5):=by
 obtain ⟨a0,a1,a2,a3,a4,rfl⟩:=Pk ha
 obtain ⟨b0,b1,b2,b3,b4,rfl⟩:=Pk hb
 obtain ⟨hA0,hA1,hA2,hA3,hA4⟩:=hA
 obtain ⟨hB0,hB1,hB2,hB3,hB4⟩:=hB
 have hA0:a0.toNat<268435456:=hA0
 have hB0:b0.toNat<67108864:=hB0
 have hA1:a1.toNat<268435456:=hA1
 have hB1:b1.toNat<67108864:=hB1
 have hA2:a2.toNat<268435456:=hA2
 have hB2:b2.toNat<67108864:=hB2
 have hA3:a3.toNat<268435456:=hA3
 have hB3:b3.toNat<67108864:=hB3
 have hA4:a4.toNat<268435456:=hA4
 have hB4:b4.toNat<67108864:=hB4
 rw [ACh]
 obtain ⟨p00,q00⟩:=B6 a0 b0 hA0 hB0
 obtain ⟨p01,q01⟩:=B6 a0 b1 hA0 hB1
 obtain ⟨p02,q02⟩:=B6 a0 b2 hA0 hB2
 obtain ⟨p03,q03⟩:=B6 a0 b3 hA0 hB3
 obtain ⟨p04,q04⟩:=B6 a0 b4 hA0 hB4
 obtain ⟨p10,q10⟩:=B6 a1 b0 hA1 hB0
 obtain ⟨p11,q11⟩:=B6 a1 b1 hA1 hB1
 obtain ⟨p12,q12⟩:=B6 a1 b2 hA1 hB2
 obtain ⟨p13,q13⟩:=B6 a1 b3 hA1 hB3
 obtain ⟨p14,q14⟩:=B6 a1 b4 hA1 hB4
 have f14:=G9 a1 b4 hA1 hB4
 obtain ⟨p20,q20⟩:=B6 a2 b0 hA2 hB0
 obtain ⟨p21,q21⟩:=B6 a2 b1 hA2 hB1
 obtain ⟨p22,q22⟩:=B6 a2 b2 hA2 hB2
 obtain ⟨p23,q23⟩:=B6 a2 b3 hA2 hB3
 have f23:=G9 a2 b3 hA2 hB3
 obtain ⟨p24,q24⟩:=B6 a2 b4 hA2 hB4
 have f24:=G9 a2 b4 hA2 hB4
 obtain ⟨p30,q30⟩:=B6 a3 b0 hA3 hB0
 obtain ⟨p31,q31⟩:=B6 a3 b1 hA3 hB1
 obtain ⟨p32,q32⟩:=B6 a3 b2 hA3 hB2
 have f32:=G9 a3 b2 hA3 hB2
 obtain ⟨p33,q33⟩:=B6 a3 b3 hA3 hB3
 have f33:=G9 a3 b3 hA3 hB3
 obtain ⟨p34,q34⟩:=B6 a3 b4 hA3 hB4
 have f34:=G9 a3 b4 hA3 hB4
 obtain ⟨p40,q40⟩:=B6 a4 b0 hA4 hB0
 obtain ⟨p41,q41⟩:=B6 a4 b1 hA4 hB1
 have f41:=G9 a4 b1 hA4 hB1
 obtain ⟨p42,q42⟩:=B6 a4 b2 hA4 hB2
 have f42:=G9 a4 b2 hA4 hB2
 obtain ⟨p43,q43⟩:=B6 a4 b3 hA4 hB3
 have f43:=G9 a4 b3 hA4 hB3
 obtain ⟨p44,q44⟩:=B6 a4 b4 hA4 hB4
 have f44:=G9 a4 b4 hA4 hB4
 have hP:=AK1 a0.toNat a1.toNat a2.toNat a3.toNat a4.toNat b0.toNat b1.toNat b2.toNat b3.toNat b4.toNat
 simp only [Nat.one_mul] at hP
 have s0:((((((0#64+a0*b0)+a1*b4*5#64)+a2*b3*5#64)+a3*b2*5#64)+a4*b1*5#64)).toNat=a0.toNat*b0.toNat+5*(a1.toNat*b4.toNat)+5*(a2.toNat*b3.toNat)+5*(a3.toNat*b2.toNat)+5*(a4.toNat*b1.toNat):=by
  rw [S4 _ _ _ _ _ 90071992547409920 D_ (by rw [p00];omega) (by rw [f14];omega) (by rw [f23];omega) (by rw [f32];omega) (by rw [f41];omega),p00,f14,f23,f32,f41]
 have s1:((((((0#64+a0*b1)+a1*b0)+a2*b4*5#64)+a3*b3*5#64)+a4*b2*5#64)).toNat=a0.toNat*b1.toNat+a1.toNat*b0.toNat+5*(a2.toNat*b4.toNat)+5*(a3.toNat*b3.toNat)+5*(a4.toNat*b2.toNat):=by
  rw [S4 _ _ _ _ _ 90071992547409920 D_ (by rw [p01];omega) (by rw [p10];omega) (by rw [f24];omega) (by rw [f33];omega) (by rw [f42];omega),p01,p10,f24,f33,f42]
 have s2:((((((0#64+a0*b2)+a1*b1)+a2*b0)+a3*b4*5#64)+a4*b3*5#64)).toNat=a0.toNat*b2.toNat+a1.toNat*b1.toNat+a2.toNat*b0.toNat+5*(a3.toNat*b4.toNat)+5*(a4.toNat*b3.toNat):=by
  rw [S4 _ _ _ _ _ 90071992547409920 D_ (by rw [p02];omega) (by rw [p11];omega) (by rw [p20];omega) (by rw [f34];omega) (by rw [f43];omega),p02,p11,p20,f34,f43]
 have s3:((((((0#64+a0*b3)+a1*b2)+a2*b1)+a3*b0)+a4*b4*5#64)).toNat=a0.toNat*b3.toNat+a1.toNat*b2.toNat+a2.toNat*b1.toNat+a3.toNat*b0.toNat+5*(a4.toNat*b4.toNat):=by
  rw [S4 _ _ _ _ _ 90071992547409920 D_ (by rw [p03];omega) (by rw [p12];omega) (by rw [p21];omega) (by rw [p30];omega) (by rw [f44];omega),p03,p12,p21,p30,f44]
 have s4:((((((0#64+a0*b4)+a1*b3)+a2*b2)+a3*b1)+a4*b0)).toNat=a0.toNat*b4.toNat+a1.toNat*b3.toNat+a2.toNat*b2.toNat+a3.toNat*b1.toNat+a4.toNat*b0.toNat:=by
  rw [S4 _ _ _ _ _ 90071992547409920 D_ (by rw [p04];omega) (by rw [p13];omega) (by rw [p22];omega) (by rw [p31];omega) (by rw [p40];omega),p04,p13,p22,p31,p40]
 refine ⟨⟨1*(a1.toNat*b4.toNat)+1*(a2.toNat*b3.toNat)+67108864*(a2.toNat*b4.toNat)+1*(a3.toNat*b2.toNat)+67108864*(a3.toNat*b3.toNat)+4503599627370496*(a3.toNat*b4.toNat)+1*(a4.toNat*b1.toNat)+67108864*(a4.toNat*b2.toNat)+4503599627370496*(a4.toNat*b3.toNat)+302231454903657293676544*(a4.toNat*b4.toNat),?_⟩,?_,?_,?_,?_,?_⟩
 ·rw [PG,PG,PG,s0,s1,s2,s3,s4,hP]
  unfold pP
  clear hP s0 s1 s2 s3 s4 p00 p01 p02 p03 p04 p10 p11 p12 p13 p14 p20 p21 p22 p23 p24 p30 p31 p32 p33 p34 p40 p41 p42 p43 p44 f14 f23 f24 f32 f33 f34 f41 f42 f43 f44 q00 q01 q02 q03 q04 q10 q11 q12 q13 q14 q20 q21 q22 q23 q24 q30 q31 q32 q33 q34 q40 q41 q42 q43 q44
  generalize a0.toNat*b0.toNat=m00
  generalize a0.toNat*b1.toNat=m01
  generalize a0.toNat*b2.toNat=m02
  generalize a0.toNat*b3.toNat=m03
  generalize a0.toNat*b4.toNat=m04
  generalize a1.toNat*b0.toNat=m10
  generalize a1.toNat*b1.toNat=m11
  generalize a1.toNat*b2.toNat=m12
  generalize a1.toNat*b3.toNat=m13
  generalize a1.toNat*b4.toNat=m14
  generalize a2.toNat*b0.toNat=m20
  generalize a2.toNat*b1.toNat=m21
  generalize a2.toNat*b2.toNat=m22
  generalize a2.toNat*b3.toNat=m23
  generalize a2.toNat*b4.toNat=m24
  generalize a3.toNat*b0.toNat=m30
  generalize a3.toNat*b1.toNat=m31
  generalize a3.toNat*b2.toNat=m32
  generalize a3.toNat*b3.toNat=m33
  generalize a3.toNat*b4.toNat=m34
  generalize a4.toNat*b0.toNat=m40
  generalize a4.toNat*b1.toNat=m41
  generalize a4.toNat*b2.toNat=m42
  generalize a4.toNat*b3.toNat=m43
  generalize a4.toNat*b4.toNat=m44
  omega
 ·show BitVec.toNat ((((((0#64+a0*b0)+a1*b4*5#64)+a2*b3*5#64)+a3*b2*5#64)+a4*b1*5#64))<_
  rw [s0]
  omega
 ·show BitVec.toNat ((((((0#64+a0*b1)+a1*b0)+a2*b4*5#64)+a3*b3*5#64)+a4*b2*5#64))<_
  rw [s1]
  omega
 ·show BitVec.toNat ((((((0#64+a0*b2)+a1*b1)+a2*b0)+a3*b4*5#64)+a4*b3*5#64))<_
  rw [s2]
  omega
 ·show BitVec.toNat ((((((0#64+a0*b3)+a1*b2)+a2*b1)+a3*b0)+a4*b4*5#64))<_
  rw [s3]
  omega
 ·show BitVec.toNat ((((((0#64+a0*b4)+a1*b3)+a2*b2)+a3*b1)+a4*b0))<_
  rw [s4]
  omega
theorem vi(a b:AA 64)(ha:a.length=5)(hb:b.length=5)(hA:below 268435456 a)(hB:below 67108864 b):Over (v5 a*v5 b) (v5 (Sn a b))∧FO 67108869 (Sn a b):=by
 obtain ⟨⟨k,hk⟩,h1⟩:=ABd a b ha hb hA hB
 have hl:=IW a b 5
 have h2:=vr _ hl h1
 have hl2:(Av (Iy a b 5)).length=5:=by rw [EY,hl]
 obtain ⟨k2,hk2⟩:=PZ _ hl (by unfold below at*;omega)
 obtain ⟨k3,hk3⟩:=PZ _ hl2 (by unfold below;unfold FO at h2;omega)
 rw [ei]
 refine ⟨⟨k+k2+k3,?_⟩,uf _ hl2 h2⟩
 rw [hk,hk2,hk3,Nat.add_mul,Nat.add_mul]
 omega
def bN(l:AA 8):Nat:=l.foldr (fun x n=>x.toNat+256*n) 0
theorem qF:bN []=0:=rfl
theorem HU(x:BitVec 8)(l:AA 8):bN (x::l)=x.toNat+256*bN l:=rfl
theorem eE(l:AA 8):bN l<256^l.length:=by
 induction l with
 |nil=>decide
 |cons x l ih=>
  rw [HU,List.length_cons,Nat.pow_succ]
  have:=x.isLt
  omega
theorem AFn(l:AA 8)(k:Nat):(nth l k).toNat=bN l/256^k%256:=by
 induction l generalizing k with
 |nil=>simp [nth,bN]
 |cons x l ih=>
  have hx:=x.isLt
  rw [HU]
  cases k with
  |zero=>
   show x.toNat=_
   rw [Nat.pow_zero,Nat.div_one]
   omega
  |succ k=>
   show (nth l k).toNat=_
   rw [ih k,Nat.pow_succ,Nat.mul_comm (256^k) 256,←Nat.div_div_eq_div_mul]
   congr 2
   omega
theorem Tm(a b:AA 8):bN (a++b)=bN a+256^a.length*bN b:=by
 induction a with
 |nil=>simp [qF]
 |cons x a ih=>
  rw [List.cons_append,HU,HU,ih,List.length_cons,Nat.pow_succ,Nat.mul_add,Nat.mul_comm (256^a.length) 256,Nat.mul_assoc]
  omega
theorem AGb(a b:BitVec 64)(k:Nat)(hk:k<64)(h:a.toNat<2^k)(hb:b.toNat<2^(64-k)):(a ||| (b<<<k)).toNat=a.toNat+b.toNat*2^k:=by
 have hp:2^(64-k)*2^k=2^64:=by rw [←Nat.pow_add];congr 1;omega
 have h1:b.toNat*2^k<2^64:=by rw [←hp];exact Nat.mul_lt_mul_of_pos_right hb (Nat.two_pow_pos k)
 rw [BitVec.toNat_or,BitVec.toNat_shiftLeft,Nat.shiftLeft_eq,Nat.mod_eq_of_lt h1,Nat.or_comm,Nat.mul_comm,←Nat.two_pow_add_eq_or_of_lt h]
 omega
theorem Xe(r:AA 8)(o n:Nat)(hn:n≤8):(IY r o n).toNat=bN r/256^o%256^n:=by
 induction n with
 |zero=>simp [IY,Nat.mod_one]
 |succ n ih=>
  have ih:=ih O_
  have e:(256:Nat)^n=2^(8*n):=by rw [Nat.pow_mul]
  have hlt:(IY r o n).toNat<2^(8*n):=by rw [ih,e];exact Nat.mod_lt _ (Nat.two_pow_pos _)
  have hw:((nth r (o+n)).setWidth 64).toNat=(nth r (o+n)).toNat:=by
   rw [BitVec.toNat_setWidth,Nat.mod_eq_of_lt]
   have:=(nth r (o+n)).isLt
   omega
  have hb:((nth r (o+n)).setWidth 64).toNat<2^(64-8*n):=by
   rw [hw]
   have h1:=(nth r (o+n)).isLt
   have h2:2^8≤2^(64-8*n):=Nat.pow_le_pow_right O_ O_
   omega
  rw [IY,AGb _ _ _ O_ hlt hb,hw,ih,AFn,Nat.pow_add,←Nat.div_div_eq_div_mul,←e]
  generalize bN r/256^o=x
  rw [Nat.pow_succ,Nat.mod_mul,Nat.mul_comm (256^n) (x/256^n%256)]
theorem AKJ(X s:Nat)(hs:s<8):X%1099511627776/2^s%67108864=X/2^s%67108864:=by
 match s,hs with
 |0,_=>omega
 |1,_=>omega
 |2,_=>omega
 |3,_=>omega
 |4,_=>omega
 |5,_=>omega
 |6,_=>omega
 |7,_=>omega
theorem Fr(r:AA 8)(i:Nat)(hi:i/8≤r.length):(C7 r i).toNat=bN r/2^i%67108864:=by
 have hpow:(256:Nat)^(i/8)*2^(i%8)=2^i:=by
  rw [show (256:Nat)=2^8 from rfl,←Nat.pow_mul,←Nat.pow_add]
  congr 1
  omega
 have hs:i%8<8:=Nat.mod_lt _ O_
 unfold C7
 rw [ADh,BitVec.toNat_ushiftRight,Nat.shiftRight_eq_div_pow,Xe _ _ _ O_,←hpow,←Nat.div_div_eq_div_mul]
 by_cases h5:i/8+5≤r.length
 ·rw [show min (i/8+5) r.length-i/8=5 by omega]
  exact AKJ _ _ hs
 ·have h1:=eE r
  have h2:(256:Nat)^r.length=256^(i/8)*256^(min (i/8+5) r.length-i/8):=by rw [←Nat.pow_add];congr 1;omega
  have h3:bN r/256^(i/8)<256^(min (i/8+5) r.length-i/8):=Nat.div_lt_of_lt_mul (by rw [←h2];exact h1)
  rw [Nat.mod_eq_of_lt h3]
theorem tf(b:AA 8)(hl:b.length=17)(h:bN b<1361129467683753853853498429727072845824):v5 (JT b 5)=bN b∧below 67108864 (JT b 5):=by
 have e:JT b 5=[C7 b 0,C7 b 26,C7 b 52,C7 b 78,C7 b 104]:=rfl
 have w0:=Fr b 0 O_
 have w1:=Fr b 26 O_
 have w2:=Fr b 52 O_
 have w3:=Fr b 78 O_
 have w4:=Fr b 104 O_
 rw [e]
 refine ⟨?_,?_,?_,?_,?_,?_⟩
 ·rw [PG,w0,w1,w2,w3,w4]
  omega
 ·show (C7 b 0).toNat<_
  omega
 ·show (C7 b 26).toNat<_
  omega
 ·show (C7 b 52).toNat<_
  omega
 ·show (C7 b 78).toNat<_
  omega
 ·show (C7 b 104).toNat<_
  omega
theorem yN(p:AA 8)(h:AA 64)(hl:p.length=17)(hh:h.length=5)(hp:bN p<1361129467683753853853498429727072845824)(hF:FO 67108869 h):v5 (Vm p h 5)=v5 h+bN p∧below 268435456 (Vm p h 5):=by
 obtain ⟨a,b,c,d,e,rfl⟩:=Pk hh
 obtain ⟨ha,hb,hc,hd,he⟩:=hF
 have ha:a.toNat<67108869:=ha
 have hb:b.toNat<67108864:=hb
 have hc:c.toNat<67108864:=hc
 have hd:d.toNat<67108864:=hd
 have he:e.toNat<67108864:=he
 have w0:=Fr p 0 O_
 have w1:=Fr p 26 O_
 have w2:=Fr p 52 O_
 have w3:=Fr p 78 O_
 have w4:=Fr p 104 O_
 have eq:Vm p [a,b,c,d,e] 5=[a+C7 p 0,b+C7 p 26,c+C7 p 52,d+C7 p 78,e+C7 p 104]:=rfl
 have s0:=BK a (C7 p 0) O_
 have s1:=BK b (C7 p 26) O_
 have s2:=BK c (C7 p 52) O_
 have s3:=BK d (C7 p 78) O_
 have s4:=BK e (C7 p 104) O_
 rw [eq]
 refine ⟨?_,?_,?_,?_,?_,?_⟩
 ·rw [PG,PG,s0,s1,s2,s3,s4,w0,w1,w2,w3,w4]
  omega
 ·show (a+C7 p 0).toNat<_
  omega
 ·show (b+C7 p 26).toNat<_
  omega
 ·show (c+C7 p 52).toNat<_
  omega
 ·show (d+C7 p 78).toNat<_
  omega
 ·show (e+C7 p 104).toNat<_
  omega
theorem ABu(l:AA 8)(k:Nat):bN (V7 l k)=bN l:=by
 induction k with
 |zero=>rfl
 |succ k ih=>rw [V7,Tm,ih];simp [bN]
def VK(t:AA 8)(i:Nat):Nat:=bN (cut t i (min (i+16) t.length-i))+256^(min (i+16) t.length-i)
theorem dx(t:AA 8)(i:Nat)(hi:i≤t.length):bN (V7 (piece t i) (17-(piece t i).length))=VK t i∧(V7 (piece t i) (17-(piece t i).length)).length=17∧VK t i<1361129467683753853853498429727072845824:=by
 have hc:(cut t i (min (i+16) t.length-i)).length=min (i+16) t.length-i:=by rw [BV];omega
 have hlen:(piece t i).length=min (i+16) t.length-i+1:=by unfold piece;rw [List.length_append,hc];rfl
 refine ⟨?_,by rw [Sx,hlen];omega,?_⟩
 ·rw [ABu]
  unfold piece VK
  rw [Tm,hc]
  simp [bN]
 ·unfold VK
  have h1:=eE (cut t i (min (i+16) t.length-i))
  rw [hc] at h1
  have h2:(256:Nat)^(min (i+16) t.length-i)≤256^16:=Nat.pow_le_pow_right O_ O_
  have h3:(256:Nat)^16=340282366920938463463374607431768211456:=by decide
  omega
def mL(r:Nat)(t:AA 8):Nat→Nat
 |0=>0
 |q+1=>(mL r t q+VK t (16*q))*r%pP
theorem eC(r:AA 64)(t:AA 8)(hr:r.length=5)(hR:below 67108864 r):∀q,16*q≤t.length+15→v5 (L5 r t q)%pP=mL (v5 r) t q∧FO 67108869 (L5 r t q)
 |0,_=>⟨rfl,(by refine ⟨?_,?_,?_,?_,?_⟩<;>decide:FO 67108869 (AC 5))⟩
 |q+1,hq=>by
  obtain ⟨h1,h2⟩:=eC r t hr hR q O_
  obtain ⟨p1,p2,p3⟩:=dx t (16*q) O_
  obtain ⟨a1,a2⟩:=yN _ _ p2 (Jj r t q) (by rw [p1];exact p3) h2
  obtain ⟨m1,m2⟩:=vi _ r (by rw [Si,Jj]) hr a2 hR
  rw [L5,mL]
  refine ⟨?_,m2⟩
  rw [←m1.mod,a1,p1,←h1]
  rw [Nat.mul_mod (v5 (L5 r t q)+_),Nat.mul_mod (v5 (L5 r t q)%pP+_),Nat.mod_add_mod]
theorem fp(a b:BitVec 64)(k:Nat)(hk:k<64)(h:a.toNat<2^k):(a ||| (b<<<k)).toNat=a.toNat+(b.toNat%2^(64-k))*2^k:=by
 have hp:2^64=2^(64-k)*2^k:=by rw [←Nat.pow_add];congr 1;omega
 rw [BitVec.toNat_or,BitVec.toNat_shiftLeft,Nat.shiftLeft_eq,hp,Nat.mul_mod_mul_right,Nat.or_comm,Nat.mul_comm,←Nat.two_pow_add_eq_or_of_lt h]
 omega
theorem fY{l:AA 64}(h:FO 67108864 l):FO 67108869 l:=by unfold FO at*;omega
theorem nR(h:AA 64)(hl:h.length=5)(hF:FO 67108869 h):v5 (Lf h)=v5 h%pP∧FO 67108864 (Lf h)∧(Lf h).length=5:=by
 have l1:(Av h).length=5:=by rw [EY,hl]
 have l2:(Av (Av h)).length=5:=by rw [EY,l1]
 have l3:(Av (Av (Av h))).length=5:=by rw [EY,l2]
 have f1:=R9 h hl hF
 have f2:=R9 _ l1 (fY f1)
 have f3:=R9 _ l2 (fY f2)
 have o1:=(PZ h hl (by unfold below;unfold FO at hF;omega)).mod
 have o2:=(PZ _ l1 (by unfold below;unfold FO at f1;omega)).mod
 have o3:=(PZ _ l2 (by unfold below;unfold FO at f2;omega)).mod
 have hM:=fZ h _ rfl
 rw [o1,o2,o3,hM]
 clear o1 o2 o3 hM f1 f2 hF
 generalize Av (Av (Av h))=S at*
 obtain ⟨a,b,c,d,e,rfl⟩:=Pk l3
 obtain ⟨ha,hb,hc,hd,he⟩:=f3
 have ha:a.toNat<67108864:=ha
 have hb:b.toNat<67108864:=hb
 have hc:c.toNat<67108864:=hc
 have hd:d.toNat<67108864:=hd
 have he:e.toNat<67108864:=he
 have h5:(a+5#64).toNat=a.toNat+5:=BK a 5#64 (by show _+5<_;omega)
 have hput:put [a,b,c,d,e] 0 (nth [a,b,c,d,e] 0+5#64)=[a+5#64,b,c,d,e]:=rfl
 rw [hput]
 obtain ⟨y0,y1,y2,y3,y4,k,c1,c2,c3,c4,hE,⟨h0,h1,h2,h3,h4⟩⟩:=lf (a+5#64) b c d e (by
  refine ⟨?_,?_,?_,?_,?_⟩
  ·show (a+5#64).toNat<_
   omega
  ·show b.toNat<_
   omega
  ·show c.toNat<_
   omega
  ·show d.toNat<_
   omega
  ·show e.toNat<_
   omega)
 rw [hE]
 dsimp only
 rw [h5] at h0
 by_cases hk:0<k.toNat
 ·rw [if_pos hk]
  refine ⟨?_,⟨h0.2,h1.2,h2.2,h3.2,h4.2⟩,rfl⟩
  have hk1:k.toNat=1:=by omega
  have hV:v5 [a,b,c,d,e]=v5 [y0,y1,y2,y3,y4]+pP:=by
   rw [PG,PG]
   unfold pP
   omega
  have hlt:v5 [y0,y1,y2,y3,y4]<pP:=by
   have:v5 [a,b,c,d,e]<1361129467683753853853498429727072845824:=by rw [PG];omega
   unfold pP at*
   omega
  rw [hV,Nat.add_mod_right,Nat.mod_eq_of_lt hlt]
 ·rw [if_neg hk]
  refine ⟨?_,⟨ha,hb,hc,hd,he⟩,rfl⟩
  rw [PG]
  unfold pP
  omega
theorem AFt(h:AA 64):loL h=(nth h 0 ||| (nth h 1<<<26)) ||| (nth h 2<<<52):=by with_unfolding_all rfl
theorem AEy(h:AA 64):hiL h=((nth h 2>>>12) ||| (nth h 3<<<14)) ||| (nth h 4<<<40):=by with_unfolding_all rfl
theorem xf(l:AA 64)(hl:l.length=5)(hF:FO 67108864 l):(loL l).toNat+18446744073709551616*(hiL l).toNat=v5 l%340282366920938463463374607431768211456:=by
 obtain ⟨a,b,c,d,e,rfl⟩:=Pk hl
 obtain ⟨ha,hb,hc,hd,he⟩:=hF
 have ha:a.toNat<67108864:=ha
 have hb:b.toNat<67108864:=hb
 have hc:c.toNat<67108864:=hc
 have hd:d.toNat<67108864:=hd
 have he:e.toNat<67108864:=he
 have s1:=fp a b 26 O_ ha
 have s2:=fp (a ||| (b<<<26)) c 52 O_ (by rw [s1];omega)
 have c12:(c>>>12).toNat=c.toNat/4096:=by rw [BitVec.toNat_ushiftRight,Nat.shiftRight_eq_div_pow]
 have t1:=fp (c>>>12) d 14 O_ (by rw [c12];omega)
 have t2:=fp ((c>>>12) ||| (d<<<14)) e 40 O_ (by rw [t1,c12];omega)
 have hlo:(loL [a,b,c,d,e]).toNat=a.toNat+b.toNat%2^(64-26)*2^26+c.toNat%2^(64-52)*2^52:=by rw [AFt,←s1,←s2];rfl
 have hhi:(hiL [a,b,c,d,e]).toNat=c.toNat/4096+d.toNat%2^(64-14)*2^14+e.toNat%2^(64-40)*2^40:=by rw [AEy,←c12,←t1,←t2];rfl
 rw [hlo,hhi,PG]
 omega
theorem ABR(lo hi:BitVec 64):Hz lo hi 8=[(lo>>>(8*0)).setWidth 8,(lo>>>(8*1)).setWidth 8,(lo>>>(8*2)).setWidth 8,(lo>>>(8*3)).setWidth 8,(lo>>>(8*4)).setWidth 8,(lo>>>(8*5)).setWidth 8,(lo>>>(8*6)).setWidth 8,(lo>>>(8*7)).setWidth 8,(hi>>>(8*0)).setWidth 8,(hi>>>(8*1)).setWidth 8,(hi>>>(8*2)).setWidth 8,(hi>>>(8*3)).setWidth 8,(hi>>>(8*4)).setWidth 8,(hi>>>(8*5)).setWidth 8,(hi>>>(8*6)).setWidth 8,(hi>>>(8*7)).setWidth 8]:=by kernel_rfl
theorem wh(x:BitVec 64)(k:Nat):((x>>>k).setWidth 8).toNat=x.toNat/2^k%256:=by
 rw [BitVec.toNat_setWidth,BitVec.toNat_ushiftRight,Nat.shiftRight_eq_div_pow]
theorem kQ(lo hi:BitVec 64):bN (Hz lo hi 8)=lo.toNat+18446744073709551616*hi.toNat:=by
 have h1:=lo.isLt
 have h2:=hi.isLt
 rw [ABR]
 simp only [HU,qF,wh]
 omega
def sN(key:AA 8):Nat:=bN key/340282366920938463463374607431768211456%340282366920938463463374607431768211456
theorem oX(h:AA 64)(key:AA 8)(hl:h.length=5)(hF:FO 67108869 h):bN (VI h key)=(v5 h%pP+sN key)%340282366920938463463374607431768211456:=by
 obtain ⟨m1,m2,m3⟩:=nR h hl hF
 have hv:=xf _ m3 m2
 have k1:=Xe key 16 8 O_
 have k2:=Xe key 24 8 O_
 rw [Xr,kQ]
 rw [m1] at hv
 generalize loL (Lf h)=lo at*
 generalize hiL (Lf h)=hi at*
 have x1:=lo.isLt
 have x2:=hi.isLt
 generalize IY key 16 8=a at*
 generalize IY key 24 8=b at*
 have e1:(lo+a+0#64).toNat=(lo.toNat+a.toNat)%18446744073709551616:=by rw [BitVec.add_zero,BitVec.toNat_add]
 have e2:(Cm lo a 0#64).toNat=(lo.toNat+a.toNat)/18446744073709551616:=by
  unfold Cm
  rw [BitVec.toNat_ofNat]
  show (lo.toNat+a.toNat+0)/_%_=_
  have:=a.isLt
  omega
 have e3:(hi+b+Cm lo a 0#64).toNat=(hi.toNat+b.toNat+(lo.toNat+a.toNat)/18446744073709551616)%18446744073709551616:=by
  rw [BitVec.toNat_add,BitVec.toNat_add,e2]
  omega
 have hs:sN key=a.toNat+18446744073709551616*b.toNat:=by
  rw [k1,k2]
  unfold sN
  generalize bN key=N
  omega
 rw [e1,e3,hs]
 generalize v5 h%pP=V at*
 have:=a.isLt
 have:=b.isLt
 omega
theorem lM(key t:AA 8)(hk:key.length=32)(r:Nat)(hr:bN (NU key)=r)(hr2:r<1361129467683753853853498429727072845824):bN (KB key t)=(mL r t ((t.length+15)/16)+sN key)%340282366920938463463374607431768211456:=by
 have hrl:(NU key).length=17:=by unfold NU;rw [List.length_append,Kz,LC,BV];show min 16 (key.length-0)+1=17;omega
 obtain ⟨w1,w2⟩:=tf _ hrl (by rw [hr];exact hr2)
 obtain ⟨t1,t2⟩:=eC _ t (OK (NU key) 5) w2 ((t.length+15)/16) O_
 unfold KB
 rw [oX _ key (Jj _ _ _) t2,t1,w1,hr]
def C3(l:AA 32)(c:BitVec 32):Nat→AA 32×BitVec 32
 |0=>(l,c)
 |k+1=>(put (C3 l c k).1 k (((C3 l c k).2+nth (C3 l c k).1 k)&&&255#32),((C3 l c k).2+nth (C3 l c k).1 k)>>>8)
theorem T4(l:AA 32)(c:BitVec 32)(k:Nat):C3 l c (k+1)=(put (C3 l c k).1 k (((C3 l c k).2+nth (C3 l c k).1 k)&&&255#32),((C3 l c k).2+nth (C3 l c k).1 k)>>>8):=rfl
theorem DN(l:AA 32)(c:BitVec 32)(k:Nat):(C3 l c k).1.length=l.length:=by
 induction k with
 |zero=>rfl
 |succ k ih=>simp [C3,ih]
def RL(a:AA 32):Nat→AA 32
 |0=>DF 64
 |k+1=>put (RL a k) k (if k+17<64 then (nth a (k+16)>>>2) ||| ((nth a (k+17)<<<6)&&&255#32) else nth a (k+16)>>>2)
theorem Ni(a:AA 32)(k:Nat):(RL a k).length=64:=by
 induction k with
 |zero=>rfl
 |succ k ih=>simp [RL,ih]
def C4(a:AA 32):Nat→AA 32
 |0=>a
 |k+1=>put (C4 a k) (17+k) 0#32
theorem F8(a:AA 32)(k:Nat):(C4 a k).length=a.length:=by
 induction k with
 |zero=>rfl
 |succ k ih=>simp [C4,ih]
def GB(a top:AA 32):Nat→AA 32
 |0=>a
 |k+1=>put (GB a top k) k (nth (GB a top k) k+5#32*nth top k)
theorem G8(a top:AA 32)(k:Nat):(GB a top k).length=a.length:=by
 induction k with
 |zero=>rfl
 |succ k ih=>simp [GB,ih]
def L9(a:AA 32):AA 32:=GB (put (C4 a 47) 16 (nth (C4 a 47) 16&&&3#32)) (RL a 48) 64
def GN(a:AA 32):Nat→AA 32
 |0=>a
 |k+1=>L9 (C3 (GN a k) 0#32 64).1
theorem Pl(a:AA 32)(h:a.length=64)(k:Nat):(GN a k).length=64:=by
 induction k with
 |zero=>exact h
 |succ k ih=>rw [GN,L9,G8,BW,F8,DN,ih]
def Xa(a:AA 32):AA 32:=
 if 4≤(nth (C3 (C3 (GN a 4) 0#32 64).1 5#32 64).1 16).toNat then put (C3 (C3 (GN a 4) 0#32 64).1 5#32 64).1 16 (nth (C3 (C3 (GN a 4) 0#32 64).1 5#32 64).1 16&&&3#32) else (C3 (GN a 4) 0#32 64).1
theorem qw(a A5 G:AA 32)(h5:(C3 (GN a 4) 0#32 64).1=A5)(hG:(C3 A5 5#32 64).1=G):Xa a=if 4≤(nth G 16).toNat then put G 16 (nth G 16&&&3#32) else A5:=by subst hG;subst h5;rfl
@[simp] theorem N3(a:AA 32)(h:a.length=64):(Xa a).length=64:=by
 unfold Xa
 split<;>simp [DN,Pl a h]
attribute [irreducible] Xa
theorem XJ(k:r)(h:Hid r→g:=by intro h;refine Ap (Ay AHY AM) AT rfl ?_;exact h.out):g:=h ⟨k⟩
theorem IJ(k:r)(h:Hid r→g:=by intro h;refine AB (AN rfl rfl underlying185 Bi O_) rfl ?_;exact h.out):g:=h ⟨k⟩
theorem Kw(k:r)(h:Hid r→g:=by intro h;refine AH (AN rfl rfl underlying185 Bi O_) rfl ?_;exact h.out):g:=h ⟨k⟩
theorem am(k:r)(h:Hid r→g:=by intro h;refine AB (AN (j:=16) rfl rfl underlying185 Bi O_) rfl ?_;exact h.out):g:=h ⟨k⟩
theorem cB(k:r)(h:Hid r→g:=by intro h;refine AB (A9 rfl rfl gG jk B7 D_) rfl ?_;exact h.out):g:=h ⟨k⟩
theorem aQ(k:r)(h:Hid r→g:=by intro h;refine Bs rfl rfl rfl rfl jk B7 B7 AT ?_;exact h.out):g:=h ⟨k⟩
theorem dM(a:AA 32)(ha:a.length=64):Ev prog (.call 152 [.agg (.a32 a)] []) (.val (.agg (.a32 (Xa a))) []):=by
 have hM:=fun A5 G=>qw a A5 G
 refine AI func152 rfl ntmps152 rfl AM ?_;refine BA ?_;refine XJ ?_;refine B0 ?_;refine AK [1,2,3] (fun (x:Nat×AA 32)=>⟨122,AU [1,2,3] [AY 0,AY 1,At (x.1)],[Fz (x.2),Fz (DF 64)]⟩) (fun j=>(j,GN a j)) (4) K_ ?_ ?_
 ·intro q hq
  have h0:(GN a q).length=64:=Pl a ha q
  simp only [GN]
  generalize GN a q=A at*
  refine A1 ?_;refine IU ?_;refine AZ ?_;refine Ai ?_;refine Al ?_;refine AK [1,2,3,4,5] (fun (x:Nat×AA 32×BitVec 32)=>⟨122,AU [1,2,3,4,5] [AY 0,AY 1,At (q),.c (.val (EQ (x.2.2))),At (x.1)],[Fz (x.2.1),Fz (DF 64)]⟩) (fun j=>(j,C3 A 0#32 j)) (64) K_ ?_ ?_
  ·intro j hj
   have h1:(C3 A 0#32 j).1.length=64:=by rw [DN,h0]
   rw [T4]
   generalize C3 A 0#32 j=U at*
   obtain ⟨U,C⟩:=U
   dsimp only at h1 ⊢
   refine Hh ?_;refine GW ?_;refine IJ ?_;refine Ds ?_;refine RK ?_;refine Be ?_;refine AB (If (b:=255#32) rfl rfl) rfl ?_;refine IJ ?_;refine Hq ?_;refine Ak ?_;refine AB (Hp (j:=8) rfl rfl) rfl ?_;refine BF ?_;refine HH ?_;exact ⟨_,K_,rfl⟩
  ·have h1:(C3 A 0#32 64).1.length=64:=by rw [DN,h0]
   generalize (C3 A 0#32 64)=U at*
   obtain ⟨U,C⟩:=U
   dsimp only at h1 ⊢
   unfold L9
   refine Hh ?_;refine AZ ?_;refine XJ ?_;refine B0 ?_;refine AK [1,2,3,6,7] (fun (x:Nat×AA 32)=>⟨122,AU [1,2,3,6,7] [AY 0,AY 1,At (q),AY 2,At (x.1)],[Fz (U),Fz (DF 64),Fz (x.2)]⟩) (fun j=>(j,RL U j)) (48) K_ ?_ ?_
   ·intro j hj
    have h2:(RL U j).length=64:=Ni U j
    simp only [RL]
    generalize RL U j=V at*
    refine A1 ?_;refine Rr ?_;refine HM ?_;refine GW ?_;refine Rr ?_;refine IJ ?_;refine Ds ?_;refine AB (Hp (j:=2) rfl rfl) rfl ?_;refine IJ ?_;refine Hq ?_;refine Ak ?_;refine AB (B8 (b:=17) rfl rfl O_) rfl ?_;refine HM ?_;refine AR ?_;by_cases h17:j+17<64
    ·rw [if_pos h17]
     refine S_ ?_;refine B5 11 mixed K_ rfl rfl rfl ?_;refine AW ?_;refine Kw ?_;refine Il ?_;refine AH (B8 (b:=17) rfl rfl O_) rfl ?_;refine Kw ?_;refine Dk ?_;refine AH (SC (j:=6) rfl rfl) rfl ?_;refine AH (If (b:=255#32) rfl rfl) rfl ?_;refine AH (Xu rfl rfl) rfl ?_;refine Kw ?_;refine BJ ?_;refine PK rfl rfl rfl Bi EO AT ?_;refine AR ?_;simp only [XL,CD _ _ _ _ (show j<V.length by omega),if_true]
     refine A1 ?_;refine HH ?_;exact ⟨_,K_,rfl⟩
    ·rw [if_neg h17]
     refine A1 ?_;refine HH ?_;exact ⟨_,K_,rfl⟩
   ·have h2:(RL U 48).length=64:=Ni U 48
    generalize RL U 48=V at*
    dsimp only
    refine A1 ?_;refine Rr ?_;refine HM ?_;refine B0 ?_;refine AK [1,2,3,6,8] (fun (x:Nat×AA 32)=>⟨122,AU [1,2,3,6,8] [AY 0,AY 1,At (q),AY 2,At (x.1)],[Fz (x.2),Fz (DF 64),Fz (V)]⟩) (fun j=>(17+j,C4 U j)) (47) K_ ?_ ?_
    ·intro j hj
     have h3:(C4 U j).length=64:=by rw [F8,h1]
     simp only [C4]
     generalize C4 U j=W at*
     refine Hh ?_;refine Ak ?_;refine IJ ?_;refine PK (w:=0#32) rfl rfl rfl Bi EO AT ?_;refine Cc ?_;exact ⟨_,K_,rfl⟩
    ·have h3:(C4 U 47).length=64:=by rw [F8,h1]
     generalize C4 U 47=W at*
     dsimp only
     refine Hh ?_;refine AZ ?_;refine am ?_;refine Ds ?_;refine AB (If (b:=3#32) rfl rfl) rfl ?_;refine am ?_;refine Hq ?_;refine AZ ?_;refine BZ ?_;have h4:(put W 16 (nth W 16&&&3#32)).length=64:=by rw [BW,h3]
     generalize put W 16 (nth W 16&&&3#32)=X at*
     refine S_ ?_;refine AK [1,2,3,6,9] (fun (x:Nat×AA 32)=>⟨122,AU [1,2,3,6,9] [AY 0,AY 1,At (q),AY 2,At (x.1)],[Fz (x.2),Fz (DF 64),Fz (V)]⟩) (fun j=>(j,GB X V j)) (64) K_ ?_ ?_
     ·intro j hj
      have h5:(GB X V j).length=64:=by rw [G8,h4]
      simp only [GB]
      generalize GB X V j=Y at*
      refine Hh ?_;refine Ar ?_;refine Q9 ?_;refine AW ?_;refine Kw ?_;refine Il ?_;refine Kw ?_;refine Dk ?_;refine AH (sP (a:=5#32) rfl rfl) rfl ?_;refine Ia ?_;refine Kw ?_;refine S6 ?_;refine Cc ?_;exact ⟨_,K_,rfl⟩
     ·have h5:(GB X V 64).length=64:=by rw [G8,h4]
      generalize GB X V 64=Y at*
      dsimp only
      refine Hh ?_;refine Cc ?_;exact ⟨_,K_,rfl⟩
 ·have h0:(GN a 4).length=64:=Pl a ha 4
  generalize GN a 4=A at*
  dsimp only
  refine A1 ?_;refine IU ?_;refine AZ ?_;refine Ai ?_;refine Al ?_;refine AK [1,2,10,11] (fun (x:Nat×AA 32×BitVec 32)=>⟨122,AU [1,2,10,11] [AY 0,AY 1,.c (.val (EQ (x.2.2))),At (x.1)],[Fz (x.2.1),Fz (DF 64)]⟩) (fun j=>(j,C3 A 0#32 j)) (64) K_ ?_ ?_
  ·intro j hj
   have h1:(C3 A 0#32 j).1.length=64:=by rw [DN,h0]
   rw [T4]
   generalize C3 A 0#32 j=U at*
   obtain ⟨U,C⟩:=U
   dsimp only at h1 ⊢
   refine Hh ?_;refine GW ?_;refine IJ ?_;refine Ds ?_;refine RK ?_;refine Be ?_;refine AB (If (b:=255#32) rfl rfl) rfl ?_;refine IJ ?_;refine Hq ?_;refine Ak ?_;refine AB (Hp (j:=8) rfl rfl) rfl ?_;refine BF ?_;refine HH ?_;exact ⟨_,K_,rfl⟩
  ·have h1:(C3 A 0#32 64).1.length=64:=by rw [DN,h0]
   replace hM:=fun G=>hM _ G rfl
   generalize (C3 A 0#32 64)=U at*
   obtain ⟨U,C⟩:=U
   dsimp only at h1 hM ⊢
   refine Hh ?_;refine AZ ?_;refine cB ?_;refine XJ ?_;refine aQ ?_;refine AZ ?_;refine Ai ?_;refine Al ?_;refine AK [1,2,10,12,13] (fun (x:Nat×AA 32×BitVec 32)=>⟨122,AU [1,2,10,12,13] [AY 0,AY 1,.c (.val (EQ (x.2.2))),AY 2,At (x.1)],[Fz (U),Fz (DF 64),Fz (x.2.1)]⟩) (fun j=>(j,C3 U 5#32 j)) (64) K_ ?_ ?_
   ·intro j hj
    have h2:(C3 U 5#32 j).1.length=64:=by rw [DN,h1]
    rw [T4]
    generalize C3 U 5#32 j=V at*
    obtain ⟨V,D⟩:=V
    dsimp only at h2 ⊢
    refine Hh ?_;refine GW ?_;refine IJ ?_;refine Ds ?_;refine RK ?_;refine Be ?_;refine AB (If (b:=255#32) rfl rfl) rfl ?_;refine IJ ?_;refine Hq ?_;refine Ak ?_;refine AB (Hp (j:=8) rfl rfl) rfl ?_;refine BF ?_;refine HH ?_;exact ⟨_,K_,rfl⟩
   ·have h2:(C3 U 5#32 64).1.length=64:=by rw [DN,h1]
    replace hM:=hM _ rfl
    generalize C3 U 5#32 64=V at*
    obtain ⟨V,D⟩:=V
    dsimp only at h2 hM ⊢
    rw [hM]
    refine Hh ?_;refine AZ ?_;refine am ?_;refine Ds ?_;refine AB (ABx (b:=4#32) rfl rfl) rfl ?_;refine EA ?_;by_cases h4:4≤(nth V 16).toNat
    ·rw [if_pos h4]
     refine FJ rfl (decide_eq_true h4) ?_;refine Ab ?_;refine am ?_;refine Ds ?_;refine AB (If (b:=3#32) rfl rfl) rfl ?_;refine am ?_;refine Hq ?_;refine AZ ?_;refine cB ?_;refine aQ ?_;refine Ar ?_;exact kG (Hu rfl rfl gG jk B7 D_) (by (kernel_rfl))
    ·rw [if_neg h4]
     refine Cg rfl (decide_eq_false h4) ?_;refine Ab ?_;refine cB ?_;refine aQ ?_;refine Ar ?_;exact kG (Hu rfl rfl gG jk B7 D_) (by (kernel_rfl))
def WP(key:AA 8):Nat→AA 32
 |0=>DF 64
 |k+1=>put (WP key k) k ((nth key k).setWidth 32)
theorem YL(key:AA 8)(k:Nat):(WP key k).length=64:=by
 induction k with
 |zero=>rfl
 |succ k ih=>simp [WP,ih]
def rA(l:AA 32):Nat→AA 32
 |0=>l
 |k+1=>put (rA l k) (3+4*k) (nth (rA l k) (3+4*k)&&&15#32)
theorem fO(l:AA 32)(k:Nat):(rA l k).length=l.length:=by
 induction k with
 |zero=>rfl
 |succ k ih=>simp [rA,ih]
def Wt(l:AA 32):Nat→AA 32
 |0=>l
 |k+1=>put (Wt l k) (4+4*k) (nth (Wt l k) (4+4*k)&&&252#32)
theorem fC(l:AA 32)(k:Nat):(Wt l k).length=l.length:=by
 induction k with
 |zero=>rfl
 |succ k ih=>simp [Wt,ih]
def Yx(key:AA 8):AA 32:=Wt (rA (WP key 16) 4) 3
def DQ(t:AA 8)(i:Nat)(h:AA 32):Nat→AA 32
 |0=>h
 |k+1=>put (DQ t i h k) k (nth (DQ t i h k) k+(nth t (i+k)).setWidth 32)
theorem GP(t:AA 8)(i:Nat)(h:AA 32)(k:Nat):(DQ t i h k).length=h.length:=by
 induction k with
 |zero=>rfl
 |succ k ih=>simp [DQ,ih]
def addPiece(t:AA 8)(i L:Nat)(h:AA 32):AA 32:=put (DQ t i h L) L (nth (DQ t i h L) L+1#32)
def EP(h r p:AA 32)(i:Nat):Nat→AA 32
 |0=>p
 |j+1=>put (EP h r p i j) (i+j) (nth (EP h r p i j) (i+j)+nth h i*nth r j)
theorem Hs(h r p:AA 32)(i j:Nat):(EP h r p i j).length=p.length:=by
 induction j with
 |zero=>rfl
 |succ j ih=>simp [EP,ih]
def Gq(h r:AA 32):Nat→AA 32
 |0=>DF 64
 |i+1=>EP h r (Gq h r i) i 16
theorem Hb(h r:AA 32)(i:Nat):(Gq h r i).length=64:=by
 induction i with
 |zero=>rfl
 |succ i ih=>rw [Gq,Hs,ih]
def JG(r:AA 32)(t:AA 8):Nat→AA 32
 |0=>DF 64
 |q+1=>Xa (Gq (Xa (addPiece t (16*q) (min (t.length-16*q) 16) (JG r t q))) r 17)
theorem Mc(r:AA 32)(t:AA 8)(q:Nat):(JG r t q).length=64:=by
 cases q with
 |zero=>rfl
 |succ q=>exact N3 _ (Hb _ _ _)
def HY(h:AA 32)(key:AA 8):Nat→AA 8×BitVec 32
 |0=>(Ac 16,0#32)
 |k+1=>(put (HY h key k).1 k (((HY h key k).2+(nth h k+(nth key (16+k)).setWidth 32)).setWidth 8),((HY h key k).2+(nth h k+(nth key (16+k)).setWidth 32))>>>8)
theorem ap(h:AA 32)(key:AA 8)(k:Nat):HY h key (k+1)=(put (HY h key k).1 k (((HY h key k).2+(nth h k+(nth key (16+k)).setWidth 32)).setWidth 8),((HY h key k).2+(nth h k+(nth key (16+k)).setWidth 32))>>>8):=rfl
theorem KD(h:AA 32)(key:AA 8)(k:Nat):(HY h key k).1.length=16:=by
 induction k with
 |zero=>rfl
 |succ k ih=>simp [HY,ih]
def XI(key t:AA 8):AA 8:=(HY (JG (Yx key) t ((t.length+15)/16)) key 16).1
theorem eM(key t:AA 8)(n:Nat)(h:t.length=n):XI key t=(HY (JG (Wt (rA (WP key 16) 4) 3) t ((n+15)/16)) key 16).1:=by subst h;rfl
@[simp] theorem dY(key t:AA 8):(XI key t).length=16:=KD _ _ _
attribute [irreducible] XI
theorem vN(key t:AA 8)(n cap:Nat)(hk:key.length=32)(ht:t.length=n)(hn:n≤1099511627776):Ev prog (.call 111 [BM key,.c (.sl 0 0 n cap 1)] [A0 t]) (.val (BM (XI key t)) [A0 t]):=by
 have hP:=eM key t n ht
 refine AI func111 rfl ntmps111 rfl AM ?_;refine BA ?_;refine O4 ?_;refine AZ ?_;refine XJ ?_;refine XJ ?_;refine B0 ?_;refine AK [2,4,5,6,7,1] (fun (x:Nat×AA 32)=>⟨128,AU [2,4,5,6,7,1] [AY 1,AY 2,AY 3,AY 4,At (x.1),.c (.sl 0 0 n cap 1)],[A0 (t),BP (key),BP (Ac 16),Fz (x.2),Fz (DF 64)]⟩) (fun j=>(j,WP key j)) (16) K_ ?_ ?_
 ·intro j hj
  have h1:(WP key j).length=64:=YL key j
  simp only [WP]
  generalize WP key j=U at*
  refine A1 ?_;refine GF ?_;refine GW ?_;refine O2 ?_;refine GA ?_;refine AB (F9 rfl underlying5 underlying106 (AEP _)) rfl ?_;refine IJ ?_;refine Hq ?_;refine Cc ?_;exact ⟨_,K_,rfl⟩
 ·have h1:(WP key 16).length=64:=YL key 16
  generalize WP key 16=U at*
  dsimp only
  refine A1 ?_;refine GF ?_;refine B0 ?_;refine AK [2,4,5,6,8,1] (fun (x:Nat×AA 32)=>⟨128,AU [2,4,5,6,8,1] [AY 1,AY 2,AY 3,AY 4,At (x.1),.c (.sl 0 0 n cap 1)],[A0 (t),BP (key),BP (Ac 16),Fz (x.2),Fz (DF 64)]⟩) (fun j=>(3+4*j,rA U j)) (4) K_ ?_ ?_
  ·intro j hj
   have h2:(rA U j).length=64:=by rw [fO,h1]
   simp only [rA]
   generalize rA U j=V at*
   refine A1 ?_;refine GF ?_;refine Ak ?_;refine IJ ?_;refine Ds ?_;refine AB (If (b:=15#32) rfl rfl) rfl ?_;refine IJ ?_;refine Hq ?_;refine Ak ?_;refine Wq ?_;refine BZ ?_;exact ⟨(3+4*j+4,_),K_,by rw [Nat.mul_succ,Nat.add_assoc]⟩
  ·have h2:(rA U 4).length=64:=by rw [fO,h1]
   generalize rA U 4=V at*
   dsimp only
   refine A1 ?_;refine GF ?_;refine B0 ?_;refine AK [2,4,5,6,9,1] (fun (x:Nat×AA 32)=>⟨128,AU [2,4,5,6,9,1] [AY 1,AY 2,AY 3,AY 4,At (x.1),.c (.sl 0 0 n cap 1)],[A0 (t),BP (key),BP (Ac 16),Fz (x.2),Fz (DF 64)]⟩) (fun j=>(4+4*j,Wt V j)) (3) K_ ?_ ?_
   ·intro j hj
    have h3:(Wt V j).length=64:=by rw [fC,h2]
    simp only [Wt]
    generalize Wt V j=W at*
    refine A1 ?_;refine GF ?_;refine Ak ?_;refine IJ ?_;refine Ds ?_;refine AB (If (b:=252#32) rfl rfl) rfl ?_;refine IJ ?_;refine Hq ?_;refine Ak ?_;refine Wq ?_;refine BZ ?_;exact ⟨(4+4*j+4,_),K_,by rw [Nat.mul_succ,Nat.add_assoc]⟩
   ·have h3:(Wt V 3).length=64:=by rw [fC,h2]
    generalize Wt V 3=W at*
    dsimp only
    refine A1 ?_;refine GF ?_;refine B0 ?_;refine AK [2,4,5,6,10,1] (fun (x:Nat×AA 32)=>⟨128,AU [2,4,5,6,10,1] [AY 1,AY 2,AY 3,AY 4,At (x.1),.c (.sl 0 0 n cap 1)],[A0 (t),BP (key),BP (Ac 16),Fz (W),Fz (x.2)]⟩) (fun q=>(16*q,JG W t q)) ((n+15)/16) K_ ?_ ?_
    ·intro q hq
     have h4:(JG W t q).length=64:=Mc W t q
     rw [JG,ht]
     generalize JG W t q=H at*
     refine CK ?_;refine Hc ?_;refine Jk ?_;refine AX ?_;refine AB (E4 rfl rfl O_ O_) rfl ?_;refine AB (aI (b:=16) rfl rfl) rfl ?_;refine Ai ?_;refine BZ ?_;have hL:min (n-16*q) 16≤16∧16*q+min (n-16*q) 16≤n:=by omega
     generalize min (n-16*q) 16=L at*
     unfold addPiece
     refine S_ ?_;refine AK [2,4,5,6,10,1,11,12] (fun (x:Nat×AA 32)=>⟨128,AU [2,4,5,6,10,1,11,12] [AY 1,AY 2,AY 3,AY 4,At (((16*q:Nat):Int)),.c (.sl 0 0 n cap 1),At (L),At (x.1)],[A0 (t),BP (key),BP (Ac 16),Fz (W),Fz (x.2)]⟩) (fun j=>(j,DQ t (16*q) H j)) (L) K_ ?_ ?_
     ·intro j hj
      have h5:(DQ t (16*q) H j).length=64:=by rw [GP,h4]
      simp only [DQ]
      generalize DQ t (16*q) H j=X at*
      refine CK ?_;refine OE ?_;refine Ar ?_;refine Hk ?_;refine AW ?_;refine Kw ?_;refine Dk ?_;refine Ca ?_;refine AW ?_;refine P0 ?_;refine Of ?_;refine EK ?_;refine Up ?_;refine Ia ?_;refine Kw ?_;refine S6 ?_;refine Cc ?_;exact ⟨_,K_,rfl⟩
     ·have h5:(DQ t (16*q) H L).length=64:=by rw [GP,h4]
      generalize DQ t (16*q) H L=X at*
      dsimp only
      refine CK ?_;refine OE ?_;refine AR ?_;have h6:(put X L (nth X L+1#32)).length=64:=by rw [BW,h5]
      refine A1 ?_;refine IJ ?_;refine Ds ?_;refine AB (VY (b:=1#32) rfl rfl) rfl ?_;refine IJ ?_;refine Hq ?_;refine AR ?_;generalize put X L (nth X L+1#32)=Y at*
      have h7:(Xa Y).length=64:=N3 Y h6
      refine Ab ?_;refine cB ?_;refine CQ (Ah (dM _ h6) AAW rfl rfl rfl B4) AT rfl ?_;refine aQ ?_;refine AR ?_;generalize Xa Y=Z at*
      refine Ab ?_;refine XJ ?_;refine B0 ?_;refine AK [2,4,5,6,10,1,13,14] (fun (x:Nat×AA 32)=>⟨128,AU [2,4,5,6,10,1,13,14] [AY 1,AY 2,AY 3,AY 4,At (((16*q:Nat):Int)),.c (.sl 0 0 n cap 1),AY 5,At (x.1)],[A0 (t),BP (key),BP (Ac 16),Fz (W),Fz (Z),Fz (x.2)]⟩) (fun j=>(j,Gq Z W j)) (17) K_ ?_ ?_
      ·intro i hi
       have h8:(Gq Z W i).length=64:=Hb Z W i
       simp only [Gq]
       generalize Gq Z W i=F at*
       refine A1 ?_;refine AB (A8 (b:=17) rfl rfl) rfl ?_;refine B0 ?_;refine AK [2,4,5,6,10,1,13,14,15] (fun (x:Nat×AA 32)=>⟨128,AU [2,4,5,6,10,1,13,14,15] [AY 1,AY 2,AY 3,AY 4,At (((16*q:Nat):Int)),.c (.sl 0 0 n cap 1),AY 5,At (i),At (x.1)],[A0 (t),BP (key),BP (Ac 16),Fz (W),Fz (Z),Fz (x.2)]⟩) (fun j=>(j,EP Z W F i j)) (16) K_ ?_ ?_
       ·intro j hj
        have h9:(EP Z W F i j).length=64:=by rw [Hs,h8]
        simp only [EP]
        generalize EP Z W F i j=G at*
        refine A1 ?_;refine GF ?_;refine Ar ?_;refine B5 14 mixed K_ rfl rfl rfl ?_;refine Ca ?_;refine P0 ?_;refine Kw ?_;refine Il ?_;refine Kw ?_;refine Il ?_;refine Kw ?_;refine Dk ?_;refine AH (sP rfl rfl) rfl ?_;refine Ia ?_;refine Kw ?_;refine S6 ?_;refine Cc ?_;exact ⟨_,K_,rfl⟩
       ·have h9:(EP Z W F i 16).length=64:=by rw [Hs,h8]
        generalize EP Z W F i 16=G at*
        dsimp only
        refine A1 ?_;refine GF ?_;refine Cc ?_;exact ⟨_,K_,rfl⟩
      ·have h8:(Gq Z W 17).length=64:=Hb Z W 17
       generalize Gq Z W 17=F at*
       dsimp only
       refine A1 ?_;refine AB (A8 (b:=17) rfl rfl) rfl ?_;refine AR ?_;have h9:(Xa F).length=64:=N3 F h8
       refine Ab ?_;refine cB ?_;refine CQ (Ah (dM _ h8) AAW rfl rfl rfl B4) AT rfl ?_;refine aQ ?_;refine Ak ?_;refine Rr ?_;refine BZ ?_;exact ⟨(16*q+16,_),K_,by rw [Nat.mul_succ]⟩
    ·have h4:(JG W t ((n+15)/16)).length=64:=Mc W t _
     rw [hP]
     dsimp only
     generalize JG W t ((n+15)/16)=H at*
     refine CK ?_;refine Hc ?_;refine AZ ?_;refine O4 ?_;refine AZ ?_;refine Ai ?_;refine Al ?_;refine AK [2,4,6,16,17,18] (fun (x:Nat×AA 8×BitVec 32)=>⟨128,AU [2,4,6,16,17,18] [AY 1,AY 2,AY 3,AY 4,.c (.val (EQ (x.2.2))),At (x.1)],[A0 (t),BP (key),BP (Ac 16),Fz (H),BP (x.2.1)]⟩) (fun j=>(j,HY H key j)) (16) K_ ?_ ?_
     ·intro j hj
      have h5:(HY H key j).1.length=16:=KD H key j
      rw [ap]
      generalize HY H key j=U at*
      obtain ⟨U,C⟩:=U
      dsimp only at h5 ⊢
      refine A1 ?_;refine GF ?_;refine Ar ?_;refine Hk ?_;refine Ca ?_;refine Kw ?_;refine Il ?_;refine AH (B8 (a:=16) rfl rfl O_) rfl ?_;refine OS ?_;refine EK ?_;refine Up ?_;refine Ia ?_;refine Ia ?_;refine Ft ?_;refine GW ?_;refine qj ?_;refine AB (AN rfl rfl underlying121 Bt O_) rfl ?_;refine Ct ?_;refine Ak ?_;refine AB (Hp (j:=8) rfl rfl) rfl ?_;refine BF ?_;refine HH ?_;exact ⟨_,K_,rfl⟩
     ·have h5:(HY H key 16).1.length=16:=KD H key 16
      generalize HY H key 16=U at*
      obtain ⟨U,C⟩:=U
      dsimp only at h5 ⊢
      refine A1 ?_;refine GF ?_;refine AZ ?_;refine AB (A9 rfl rfl OA Qs B7 D_) rfl ?_;refine Jw ?_;refine Ar ?_;exact ao
def dN(l:AA 32):Nat:=l.foldr (fun x n=>x.toNat+256*n) 0
theorem Id(x:BitVec 32)(l:AA 32):dN (x::l)=x.toNat+256*dN l:=rfl
theorem Py(l:AA 32)(k:Nat)(v:BitVec 32)(h:k<l.length):dN (put l k v)+256^k*(nth l k).toNat=dN l+256^k*v.toNat:=by
 induction l generalizing k with
 |nil=>simp at h
 |cons x l ih=>
  cases k with
  |zero=>
   show dN (v::l)+256^0*x.toNat=_
   rw [Id,Id]
   omega
  |succ k=>
   show dN (x::put l k v)+256^(k+1)*(nth l k).toNat=_
   have:=ih k (by simpa using h)
   rw [Id,Id,Nat.pow_succ,Nat.mul_comm (256^k) 256,Nat.mul_assoc,Nat.mul_assoc]
   omega
theorem pV(n:Nat):dN (DF n)=0:=by
 unfold DF
 induction n with
 |zero=>rfl
 |succ n ih=>rw [List.replicate_succ,Id,ih];rfl
theorem ph(x:BitVec 32):(x&&&255#32).toNat=x.toNat%256:=by
 rw [BitVec.toNat_and]
 exact Nat.and_two_pow_sub_one_eq_mod x.toNat 8
theorem AAv(x:BitVec 32):(x>>>8).toNat=x.toNat/256:=by
 rw [BitVec.toNat_ushiftRight,Nat.shiftRight_eq_div_pow]
def under(B:Nat)(l:AA 32):Prop:= ∀k,(nth l k).toNat<B
theorem Gg{B:Nat}{l:AA 32}(h:under B l)(k:Nat)(v:BitVec 32)(hv:v.toNat<B):under B (put l k v):=by
 intro j
 by_cases hk:k<l.length
 ·rw [CD _ _ _ _ hk]
  split
  ·exact hv
  ·exact h j
 ·unfold put
  rw [List.set_eq_of_length_le O_]
  exact h j
theorem AE4(l:AA 32)(c:BitVec 32)(hl:under 2147483648 l)(hc:c.toNat<16777216)(k:Nat)(hk:k≤l.length):
  dN (C3 l c k).1+256^k*(C3 l c k).2.toNat=dN l+c.toNat∧(C3 l c k).2.toNat<16777216∧(∀j,j<k→(nth (C3 l c k).1 j).toNat<256)∧(∀j,k≤j→nth (C3 l c k).1 j=nth l j):=by
 induction k with
 |zero=>exact ⟨by show dN l+256^0*c.toNat=_;omega,hc,fun j hj=>by omega,fun j _=>rfl⟩
 |succ k ih=>
  obtain ⟨h1,h2,h3,h4⟩:=ih O_
  have hlen:=DN l c k
  rw [T4]
  generalize C3 l c k=U at*
  obtain ⟨U,C⟩:=U
  dsimp only at*
  have hx:(nth U k).toNat<2147483648:=by rw [h4 k (Nat.le_refl _)];exact hl k
  have hs:(C+nth U k).toNat=C.toNat+(nth U k).toNat:=BK _ _ O_
  have hp:=Py U k ((C+nth U k)&&&255#32) O_
  rw [ph,hs] at hp
  rw [AAv,hs]
  refine ⟨?_,by omega,fun j hj=>?_,fun j hj=>?_⟩
  ·have e:(C.toNat+(nth U k).toNat)=(C.toNat+(nth U k).toNat)%256+256*((C.toNat+(nth U k).toNat)/256):=by omega
   generalize (C.toNat+(nth U k).toNat)%256=m at*
   generalize (C.toNat+(nth U k).toNat)/256=d at*
   have e1:256^k*C.toNat+256^k*(nth U k).toNat=256^k*m+256^k*(256*d):=by rw [←Nat.mul_add,e,Nat.mul_add]
   have e2:256^(k+1)*d=256^k*(256*d):=by rw [Nat.pow_succ,Nat.mul_assoc]
   rw [e2]
   omega
  ·rw [CD _ _ _ _ O_]
   split
   ·rw [ph];omega
   ·exact h3 j O_
  ·rw [CD _ _ _ _ O_,if_neg O_]
   exact h4 j O_
theorem AAz(l:AA 32)(h:under 256 l):dN l<256^l.length:=by
 induction l with
 |nil=>decide
 |cons x l ih=>
  have h1:=ih (fun k=>h (k+1))
  have h0:x.toNat<256:=h 0
  rw [Id,List.length_cons,Nat.pow_succ]
  omega
theorem pd(l:AA 32)(h:under 256 l)(k:Nat):(nth l k).toNat=dN l/256^k%256:=by
 induction l generalizing k with
 |nil=>simp [nth,dN]
 |cons x l ih=>
  have h0:x.toNat<256:=h 0
  have ih:=ih (fun k=>h (k+1))
  rw [Id]
  cases k with
  |zero=>
   show x.toNat=_
   rw [Nat.pow_zero,Nat.div_one]
   omega
  |succ k=>
   show (nth l k).toNat=_
   rw [ih k,Nat.pow_succ,Nat.mul_comm (256^k) 256,←Nat.div_div_eq_div_mul]
   congr 2
   omega
theorem AA5(l:AA 32)(c:BitVec 32)(hlen:l.length=64)(hl:under 2147483648 l)(hc:c.toNat<16777216)(hv:dN l+c.toNat<256^64):dN (C3 l c 64).1=dN l+c.toNat∧under 256 (C3 l c 64).1:=by
 obtain ⟨h1,h2,h3,h4⟩:=AE4 l c hl hc 64 O_
 refine ⟨?_,fun j=>?_⟩
 ·have:(C3 l c 64).2.toNat=0:=by
   rcases Nat.eq_zero_or_pos (C3 l c 64).2.toNat with h | h
   ·exact h
   ·have:256^64*1≤256^64*(C3 l c 64).2.toNat:=Nat.mul_le_mul_left _ h
    omega
  rw [this] at h1
  omega
 ·rcases Nat.lt_or_ge j 64 with h | h
  ·exact h3 j h
  ·have hz:nth (C3 l c 64).1 j=0#32:=by
    unfold nth
    rw [List.getD_eq_getElem?_getD,List.getElem?_eq_none (by rw [DN];omega)]
    rfl
   rw [hz];decide
theorem TZ(l:AA 32)(k:Nat):dN (l.take (k+1))=dN (l.take k)+256^k*(nth l k).toNat:=by
 induction l generalizing k with
 |nil=>simp [nth,dN]
 |cons x l ih=>
  cases k with
  |zero=>show x.toNat+256*dN []=dN []+256^0*x.toNat;simp [dN]
  |succ k=>
   have:=ih k
   show dN (x::l.take (k+1))=dN (x::l.take k)+256^(k+1)*(nth l k).toNat
   rw [Id,Id,this,Nat.pow_succ,Nat.mul_comm (256^k) 256,Nat.mul_add,Nat.mul_assoc]
   omega
theorem Vt(l:AA 32)(k:Nat)(hk:k≤l.length):dN l=dN (l.take k)+256^k*dN (l.drop k):=by
 induction l generalizing k with
 |nil=>simp at hk;subst hk;simp [dN]
 |cons x l ih=>
  cases k with
  |zero=>simp [dN]
  |succ k=>
   have:=ih k (by simpa using hk)
   show dN (x::l)=dN (x::l.take k)+256^(k+1)*dN (l.drop k)
   rw [Id,Id,Nat.pow_succ,Nat.mul_comm (256^k) 256,Nat.mul_assoc]
   omega
theorem pC(l:AA 32)(o k:Nat):nth (l.drop o) k=nth l (o+k):=by
 unfold nth
 simp [List.getD_eq_getElem?_getD]
theorem pX(X V:AA 32)(k:Nat)(hk:k≤X.length):∀j,k≤j→nth (GB X V k) j=nth X j:=by
 induction k with
 |zero=>intro j _;rfl
 |succ k ih=>
  intro j hj
  rw [GB,CD _ _ _ _ (by rw [G8];omega),if_neg O_]
  exact ih O_ j O_
theorem nu(X V:AA 32)(hX:under 256 X)(hV:under 256 V)(k:Nat)(hk:k≤X.length):dN (GB X V k)=dN X+5*dN (V.take k)∧under 2147483648 (GB X V k):=by
 induction k with
 |zero=>exact ⟨by simp [GB,dN],fun j=>Nat.lt_trans (hX j) D_⟩
 |succ k ih=>
  obtain ⟨h1,h2⟩:=ih O_
  have hn:=pX X V k O_ k (Nat.le_refl _)
  have hx:=hX k
  have hv:=hV k
  have h5:(5#32*nth V k).toNat=5*(nth V k).toNat:=by rw [PB _ _ (by show 5*_<_;omega)];rfl
  have hs:(nth (GB X V k) k+5#32*nth V k).toNat=(nth X k).toNat+5*(nth V k).toNat:=by rw [hn,BK _ _ (by rw [h5];omega),h5]
  rw [GB,TZ]
  generalize nth (GB X V k) k+5#32*nth V k=v at*
  have hp:=Py (GB X V k) k v (by rw [G8];omega)
  rw [hs,hn,Nat.mul_add,h1] at hp
  refine ⟨?_,Gg h2 _ _ (by rw [hs];omega)⟩
  have e:256^k*(5*(nth V k).toNat)=5*(256^k*(nth V k).toNat):=Nat.mul_left_comm _ _ _
  rw [e] at hp
  omega
theorem YK(a:AA 32)(ha:a.length=64)(k:Nat)(hk:k≤47):∀j,(j<17∨17+k≤j)→nth (C4 a k) j=nth a j:=by
 induction k with
 |zero=>intro j _;rfl
 |succ k ih=>
  intro j hj
  rw [C4,CD _ _ _ _ (by rw [F8,ha];omega),if_neg O_]
  exact ih O_ j O_
theorem mf(a:AA 32)(ha:a.length=64)(k:Nat)(hk:k≤47):dN (C4 a k)+256^17*dN ((a.drop 17).take k)=dN a:=by
 induction k with
 |zero=>simp [C4,dN]
 |succ k ih=>
  have ih:=ih O_
  have hp:=Py (C4 a k) (17+k) 0#32 (by rw [F8,ha];omega)
  rw [YK a ha k O_ _ (.inr (Nat.le_refl _))] at hp
  rw [C4,TZ,pC,Nat.mul_add,←Nat.mul_assoc,←Nat.pow_add]
  have:256^(17+k)*(0#32).toNat=0:=rfl
  omega
theorem AFu(x:BitVec 32):(x>>>2).toNat=x.toNat/4:=by rw [BitVec.toNat_ushiftRight,Nat.shiftRight_eq_div_pow]
theorem ALj(x:BitVec 32):((x<<<6)&&&255#32).toNat=64*(x.toNat%4):=by
 rw [ph,BitVec.toNat_shiftLeft,Nat.shiftLeft_eq]
 omega
theorem or6(x y:BitVec 32)(n:Nat)(hx:x.toNat<64)(hy:y.toNat=64*n):(x ||| y).toNat=x.toNat+64*n:=by
 rw [BitVec.toNat_or,hy,Nat.or_comm]
 have:=Nat.two_pow_add_eq_or_of_lt (i:=6) hx n
 rw [show (64:Nat)=2^6 from rfl,←this]
 omega
theorem Pa(n j:Nat):nth (DF n) j=0#32:=by
 unfold nth DF
 rw [List.getD_eq_getElem?_getD,List.getElem?_replicate]
 split<;>rfl
theorem yM(a:AA 32)(ha:a.length=64)(hu:under 256 a)(k:Nat)(hk:k≤48):
  dN (RL a k)=dN a/256^16/4%256^k∧(∀j,k≤j→nth (RL a k) j=0#32)∧under 256 (RL a k):=by
 induction k with
 |zero=>
  refine ⟨by show dN (DF 64)=_;rw [pV,Nat.pow_zero,Nat.mod_one],fun j _=>?_,fun j=>?_⟩
  ·exact Pa 64 j
  ·show (nth (DF 64) j).toNat<256
   rw [Pa];decide
 |succ k ih=>
  obtain ⟨h1,h2,h3⟩:=ih O_
  have hlen:=Ni a k
  have e16:=pd a hu (k+16)
  have e17:=pd a hu (k+17)
  rw [Nat.add_comm k 16,Nat.pow_add,←Nat.div_div_eq_div_mul] at e16
  rw [show k+17=16+(k+1) by omega,Nat.pow_add,←Nat.div_div_eq_div_mul,show 256^(k+1)=256^k*256 from rfl,←Nat.div_div_eq_div_mul] at e17
  have hE:dN a/256^16/4/256^k=dN a/256^16/256^k/4:=by rw [Nat.div_div_eq_div_mul,Nat.mul_comm,←Nat.div_div_eq_div_mul]
  have hb:∀v:BitVec 32,v.toNat=dN a/256^16/256^k/4%256→dN (put (RL a k) k v)=dN a/256^16/4%256^(k+1)∧(∀j,k+1≤j→nth (put (RL a k) k v) j=0#32)∧under 256 (put (RL a k) k v):=by
   intro v hv
   refine ⟨?_,fun j hj=>?_,Gg h3 _ _ O_⟩
   ·have hp:=Py (RL a k) k v O_
    rw [h2 k (Nat.le_refl _),h1] at hp
    rw [show 256^(k+1)=256^k*256 from rfl,Nat.mod_mul,hE,←hv]
    have:256^k*(0#32).toNat=0:=rfl
    omega
   ·rw [CD _ _ _ _ O_,if_neg O_]
    exact h2 j O_
  rw [RL]
  apply hb
  generalize dN a/256^16/256^k=X at*
  rw [Nat.add_comm 16 k] at e16
  split
  ·rename_i h64
   rw [show 16+(k+1)=k+17 by omega] at e17
   rw [or6 _ _ ((nth a (k+17)).toNat%4) (by rw [AFu];omega) (ALj _),AFu,e16,e17]
   omega
  ·rename_i h64
   have hz:nth a (16+(k+1))=0#32:=by
    unfold nth
    rw [List.getD_eq_getElem?_getD,List.getElem?_eq_none O_]
    rfl
   rw [hz] at e17
   have e17:0=X/256%256:=e17
   rw [AFu,e16]
   omega
theorem Zt{B:Nat}{l:AA 32}(h:under B l)(hB:0<B)(o:Nat):under B (l.take o):=fun k=>by
 by_cases hk:k<o
 ·have:nth (l.take o) k=nth l k:=by
   unfold nth
   simp only [List.getD_eq_getElem?_getD,List.getElem?_take,if_pos hk]
  rw [this];exact h k
 ·have:nth (l.take o) k=0#32:=by
   unfold nth
   rw [List.getD_eq_getElem?_getD,List.getElem?_take,if_neg hk];rfl
  rw [this];exact hB
theorem ACt(x:BitVec 32):(x&&&3#32).toNat=x.toNat%4:=by
 rw [BitVec.toNat_and]
 exact Nat.and_two_pow_sub_one_eq_mod x.toNat 2
theorem dc{B:Nat}(hB:0<B)(a:AA 32)(h:under B a)(k:Nat):under B (C4 a k):=by
 induction k with
 |zero=>exact h
 |succ k ih=>exact Gg ih _ _ hB
theorem wN(a:AA 32)(ha:a.length=64)(hu:under 256 a):
  dN (L9 a)=dN a%1361129467683753853853498429727072845824+5*(dN a/1361129467683753853853498429727072845824)∧under 2147483648 (L9 a)∧(L9 a).length=64:=by
 have hz:=mf a ha 47 O_
 have hzl:(C4 a 47).length=64:=by rw [F8,ha]
 have hz16:=YK a ha 47 O_ 16 (.inl O_)
 have hp:=Py (C4 a 47) 16 (nth (C4 a 47) 16&&&3#32) O_
 rw [ACt,hz16] at hp
 obtain ⟨t1,_,t3⟩:=yM a ha hu 48 O_
 have hX:under 256 (put (C4 a 47) 16 (nth (C4 a 47) 16&&&3#32)):=Gg (dc O_ a hu 47) _ _ (by rw [ACt];omega)
 obtain ⟨f1,f2⟩:=nu _ (RL a 48) hX t3 64 (by rw [BW,hzl];omega)
 have hl:(L9 a).length=64:=by unfold L9;rw [G8,BW,hzl]
 refine ⟨?_,f2,hl⟩
 unfold L9
 rw [f1,List.take_of_length_le (by rw [Ni];omega),t1]
 rw [hz16] at*
 have d17:(a.drop 17).take 47=a.drop 17:=List.take_of_length_le (by simp [ha])
 rw [d17] at hz
 have s16:=Vt a 16 O_
 have s17:=Vt a 17 O_
 have tk:=TZ a 16
 have lt16:=AAz (a.take 16) (Zt hu O_ 16)
 have hlt:=AAz a hu
 rw [ha] at hlt
 have l16:(a.take 16).length=16:=by simp [ha]
 rw [l16] at lt16
 have hx:=hu 16
 generalize dN (put (C4 a 47) 16 (nth a 16&&&3#32))=L at*
 generalize dN (C4 a 47)=Z at*
 generalize (nth a 16).toNat=x at*
 generalize dN (a.drop 17)=D at*
 generalize dN (a.take 16)=T at*
 generalize dN (a.take 17)=T17 at*
 generalize dN (a.drop 16)=E at*
 generalize dN a=N at*
 omega
theorem N6(l:AA 32)(hl:l.length=64)(hu:under 2147483648 l)(v:Nat)(hv:dN l=v)(hv2:v<2037035976334486086268445688409378161051468393665936250636140449354381299763336706183397376):
  dN (L9 (C3 l 0#32 64).1)=v%1361129467683753853853498429727072845824+5*(v/1361129467683753853853498429727072845824)∧under 2147483648 (L9 (C3 l 0#32 64).1)∧(L9 (C3 l 0#32 64).1).length=64:=by
 obtain ⟨c1,c2⟩:=AA5 l 0#32 hl hu D_ (by rw [hv];show v+0<_;omega)
 obtain ⟨f1,f2,f3⟩:=wN _ (by rw [DN,hl]) c2
 rw [c1,hv] at f1
 exact ⟨f1,f2,f3⟩
theorem nN(a:AA 32)(ha:a.length=64)(hu:under 2147483648 a)(hv:dN a<2037035976334486086268445688409378161051468393665936250636140449354381299763336706183397376):dN (Xa a)=dN a%pP∧under 256 (Xa a):=by
 obtain ⟨a1,a2,a3⟩:=N6 a ha hu _ rfl hv
 generalize dN a=v at*
 have e1:GN a 1=L9 (C3 a 0#32 64).1:=rfl
 obtain ⟨b1,b2,b3⟩:=N6 _ a3 a2 _ a1 O_
 have e2:GN a 2=L9 (C3 (GN a 1) 0#32 64).1:=rfl
 obtain ⟨d1,d2,d3⟩:=N6 _ b3 b2 _ b1 O_
 have e3:GN a 3=L9 (C3 (GN a 2) 0#32 64).1:=rfl
 obtain ⟨g1,g2,g3⟩:=N6 _ d3 d2 _ d1 O_
 have e4:GN a 4=L9 (C3 (GN a 3) 0#32 64).1:=rfl
 rw [←e1,←e2,←e3,←e4] at g1 g2 g3
 obtain ⟨V,hV⟩:∃V,dN (GN a 4)=V:=⟨_,rfl⟩
 have hVp:V<1361129467683753853853498429727072845824∧V%pP=v%pP:=by
  rw [←hV,g1]
  unfold pP
  omega
 clear a1 a2 a3 b1 b2 b3 d1 d2 d3 e1 e2 e3 e4 g1
 obtain ⟨p1,p2⟩:=AA5 (GN a 4) 0#32 g3 g2 D_ (by rw [hV];show V+0<_;omega)
 have p1:dN (C3 (GN a 4) 0#32 64).1=V:=by rw [p1,hV];rfl
 have q0:under 2147483648 (C3 (GN a 4) 0#32 64).1:=fun j=>Nat.lt_trans (p2 j) D_
 have ql:(C3 (GN a 4) 0#32 64).1.length=64:=by rw [DN,g3]
 rw [qw a _ _ rfl rfl]
 generalize (C3 (GN a 4) 0#32 64).1=A at*
 obtain ⟨q1,q2⟩:=AA5 A 5#32 ql q0 D_ (by rw [p1];show V+5<_;omega)
 have q1:dN (C3 A 5#32 64).1=V+5:=by rw [q1,p1];rfl
 have rl:(C3 A 5#32 64).1.length=64:=by rw [DN,ql]
 generalize (C3 A 5#32 64).1=G at*
 have h16:=pd G q2 16
 rw [q1] at h16
 rw [←hVp.2]
 have hV2:=hVp.1
 split
 ·rename_i h4
  have hp:=Py G 16 (nth G 16&&&3#32) O_
  rw [ACt,q1,h16] at hp
  refine ⟨?_,Gg q2 _ _ (by rw [ACt];omega)⟩
  generalize dN (put G 16 (nth G 16&&&3#32))=R at*
  unfold pP
  omega
 ·rename_i h4
  refine ⟨?_,p2⟩
  rw [p1]
  unfold pP
  omega
theorem mI(h r p:AA 32)(i j:Nat)(hl:i+j≤p.length):∀k,i+j≤k→nth (EP h r p i j) k=nth p k:=by
 induction j with
 |zero=>intro k _;rfl
 |succ j ih=>
  intro k hk
  rw [EP,CD _ _ _ _ (by rw [Hs];omega),if_neg O_]
  exact ih O_ k O_
theorem lw(h r p:AA 32)(i j B:Nat)(hl:i+j≤p.length)(hh:under 256 h)(hr:under 256 r)(hp:under B p)(hB:B≤2000000000):
  dN (EP h r p i j)=dN p+256^i*((nth h i).toNat*dN (r.take j))∧under (B+65026) (EP h r p i j):=by
 induction j with
 |zero=>exact ⟨by simp [EP,dN],fun k=>Nat.lt_of_lt_of_le (hp k) O_⟩
 |succ j ih=>
  obtain ⟨h1,h2⟩:=ih O_
  have hn:=mI h r p i j O_ (i+j) (Nat.le_refl _)
  have hx:=hh i
  have hy:=hr j
  have hz:=hp (i+j)
  have hm:(nth h i).toNat*(nth r j).toNat≤65025:=Nat.mul_le_mul (show (nth h i).toNat≤255 by omega) (show (nth r j).toNat≤255 by omega)
  have h5:(nth h i*nth r j).toNat=(nth h i).toNat*(nth r j).toNat:=PB _ _ O_
  have hs:(nth (EP h r p i j) (i+j)+nth h i*nth r j).toNat=(nth p (i+j)).toNat+(nth h i).toNat*(nth r j).toNat:=by rw [hn,BK _ _ (by rw [h5];omega),h5]
  rw [EP,TZ]
  generalize nth (EP h r p i j) (i+j)+nth h i*nth r j=v at*
  have hq:=Py (EP h r p i j) (i+j) v (by rw [Hs];omega)
  rw [hs,hn,Nat.mul_add,h1] at hq
  refine ⟨?_,Gg h2 _ _ (by rw [hs];omega)⟩
  have e:256^(i+j)*((nth h i).toNat*(nth r j).toNat)=256^i*((nth h i).toNat*(256^j*(nth r j).toNat)):=by
   rw [Nat.pow_add,Nat.mul_assoc,Nat.mul_left_comm (256^j)]
  rw [e] at hq
  rw [Nat.mul_add,Nat.mul_add]
  omega
theorem ls(h r:AA 32)(i:Nat)(hi:i≤17)(hh:under 256 h)(hr:under 256 r):
  dN (Gq h r i)=dN (h.take i)*dN (r.take 16)∧under (65026*i+1) (Gq h r i):=by
 induction i with
 |zero=>exact ⟨by show dN (DF 64)=_;rw [pV];simp [dN],fun k=>by show (nth (DF 64) k).toNat<_;rw [Pa];show 0<_;omega⟩
 |succ i ih=>
  obtain ⟨h1,h2⟩:=ih O_
  obtain ⟨p1,p2⟩:=lw h r (Gq h r i) i 16 _ (by rw [Hb];omega) hh hr h2 O_
  rw [Gq,TZ,Nat.add_mul,p1,h1,Nat.mul_assoc]
  exact ⟨rfl,fun k=>Nat.lt_of_lt_of_le (p2 k) O_⟩
theorem YV(t:AA 8)(i:Nat)(h:AA 32)(k:Nat)(hk:k≤h.length):∀j,k≤j→nth (DQ t i h k) j=nth h j:=by
 induction k with
 |zero=>intro j _;rfl
 |succ k ih=>
  intro j hj
  rw [DQ,CD _ _ _ _ (by rw [GP];omega),if_neg O_]
  exact ih O_ j O_
theorem zF(t:AA 8)(i k:Nat):bN (cut t i (k+1))=bN (cut t i k)+256^k*(nth t (i+k)).toNat:=by
 unfold cut
 have e:nth t (i+k)=nth (t.drop i) k:=by unfold nth;simp [List.getD_eq_getElem?_getD]
 rw [e]
 clear e
 generalize t.drop i=l
 induction l generalizing k with
 |nil=>simp [nth,bN]
 |cons x l ih=>
  cases k with
  |zero=>show x.toNat+256*bN []=bN []+256^0*x.toNat;simp [bN]
  |succ k=>
   have:=ih k
   show bN (x::l.take (k+1))=bN (x::l.take k)+256^(k+1)*(nth l k).toNat
   rw [HU,HU,this,Nat.pow_succ,Nat.mul_comm (256^k) 256,Nat.mul_add,Nat.mul_assoc]
   omega
theorem mn(t:AA 8)(i:Nat)(h:AA 32)(k:Nat)(hk:k≤h.length)(hh:under 256 h):dN (DQ t i h k)=dN h+bN (cut t i k)∧under 512 (DQ t i h k):=by
 induction k with
 |zero=>exact ⟨by simp [DQ,cut,bN],fun j=>Nat.lt_trans (hh j) D_⟩
 |succ k ih=>
  obtain ⟨h1,h2⟩:=ih O_
  have hn:=YV t i h k O_ k (Nat.le_refl _)
  have hx:=hh k
  have hy:=(nth t (i+k)).isLt
  have hw:((nth t (i+k)).setWidth 32).toNat=(nth t (i+k)).toNat:=by rw [BitVec.toNat_setWidth,Nat.mod_eq_of_lt O_]
  have hs:(nth (DQ t i h k) k+(nth t (i+k)).setWidth 32).toNat=(nth h k).toNat+(nth t (i+k)).toNat:=by rw [hn,BK _ _ (by rw [hw];omega),hw]
  rw [DQ,zF]
  generalize nth (DQ t i h k) k+(nth t (i+k)).setWidth 32=v at*
  have hq:=Py (DQ t i h k) k v (by rw [GP];omega)
  rw [hs,hn,Nat.mul_add,h1] at hq
  exact ⟨by omega,Gg h2 _ _ (by rw [hs];omega)⟩
end Go.Proofs.YtmbepikkgkcgkaaGreatDoor
