/- The texts CvGroup, CvProj, FPow, FBelow, FInv, FRoot, FLaws, CvNum, CvBend, CvUnPre, CvUnA, CvUnB, CvUnD, CvUnE, CvUnF, CvUn, CvPlus, CvTimes, CvPacked, CvApi, FSameB, FEq, CvEnc, CvLaws, CvSame, CvNumS, GAns, GSign, CvEqP, GVfyP, merged into one. -/
import Derived.Test.YtcgncafhonlmlaaGT4
namespace Go.Proofs.Ytcgncafhonlmlaa
def dF : Fp := zf 37095705934669439343138083508754565189542113879843219016388785533085940283555
theorem eHalf_lt' : eHalf < 2 ^ 255 := by decide +kernel
theorem dF_half : dF ^ eHalf = -1 := by
  unfold dF
  rw [two_powF 37095705934669439343138083508754565189542113879843219016388785533085940283555 eHalf 57896044618658097711785492504343953926634992332820282019728792003956564819948 255 eHalf_lt' (by decide +kernel)]
  decide +kernel
attribute [irreducible] dF
theorem dF_nosq {u v : Fp} (hv : v ≠ 0) : ¬ u * u = dF * (v * v) := fun h => by
  have hd : dF ≠ 0 := fun e => by
    have := dF_half
    obtain ⟨k, hk⟩ := eHalf_pos
    rw [e, hk, zero_powF] at this
    revert this; decide +kernel
  have hw : (u * invF v) * (u * invF v) = dF := by
    have := inv_mulF hv
    have e : (u * invF v) * (u * invF v) = (u * u) * (invF v * invF v) := by grobner
    rw [e, h]
    have e2 : dF * (v * v) * (invF v * invF v) = dF * ((invF v * v) * (invF v * v)) := by grobner
    rw [e2, this]
    grobner
  have hn : u * invF v ≠ 0 := fun e => by rw [e, zero_mulF] at hw; exact hd hw.symm
  have h1 := sq_half hn
  rw [hw, dF_half] at h1
  revert h1; decide +kernel
structure Pt where
  x : Fp
  y : Fp
def On (p : Pt) : Prop := p.y * p.y - p.x * p.x = 1 + dF * (p.x * p.x * (p.y * p.y))
theorem two_ne : (2 : Fp) ≠ 0 := by decide +kernel
theorem no_eps {x1 y1 x2 y2 ε : Fp} (h1 : y1 * y1 - x1 * x1 = 1 + dF * (x1 * x1 * (y1 * y1))) (h2 : y2 * y2 - x2 * x2 = 1 + dF * (x2 * x2 * (y2 * y2))) (he : ε * ε = 1) (h : dF * x1 * x2 * y1 * y2 = ε) : False := by
  have hε : ε ≠ 0 := fun e => by rw [e, zero_mulF] at he; exact one_neF he.symm
  have hi := iF_sq
  have hx1 : x1 ≠ 0 := fun e => by rw [e] at h; exact hε (by rw [← h]; grobner)
  have hy1 : y1 ≠ 0 := fun e => by rw [e] at h; exact hε (by rw [← h]; grobner)
  have hy2 : y2 ≠ 0 := fun e => by rw [e] at h; exact hε (by rw [← h]; grobner)
  have hxy : x1 * y1 ≠ 0 := mul_ne hx1 hy1
  generalize iF = j at hi
  generalize hd : dF = d at *
  have ka : (j * x1 + ε * y1) * (j * x1 + ε * y1) = d * ((x1 * y1 * (j * x2 + y2)) * (x1 * y1 * (j * x2 + y2))) := by
    clear hε hx1 hy1 hy2 hxy hd
    grobner
  have kb : (j * x1 - ε * y1) * (j * x1 - ε * y1) = d * ((x1 * y1 * (j * x2 - y2)) * (x1 * y1 * (j * x2 - y2))) := by
    clear hε hx1 hy1 hy2 hxy hd ka
    grobner
  subst hd
  by_cases c1 : j * x2 + y2 = 0
  · by_cases c2 : j * x2 - y2 = 0
    · have : 2 * y2 = 0 := by clear ka kb h h1 h2 he hi hε hx1 hy1 hy2 hxy; grobner
      rcases nozero this with g | g
      · exact two_ne g
      · exact hy2 g
    · exact dF_nosq (mul_ne hxy c2) kb
  · exact dF_nosq (mul_ne hxy c1) ka
theorem den_plus {p q : Pt} (hp : On p) (hq : On q) : 1 + dF * p.x * q.x * p.y * q.y ≠ 0 := fun h =>
  no_eps (ε := -1) hp hq (by decide +kernel) (by generalize dF * p.x * q.x * p.y * q.y = t at *; grobner)
theorem den_minus {p q : Pt} (hp : On p) (hq : On q) : 1 - dF * p.x * q.x * p.y * q.y ≠ 0 := fun h =>
  no_eps (ε := 1) hp hq (by decide +kernel) (by generalize dF * p.x * q.x * p.y * q.y = t at *; grobner)
def padd (p q : Pt) : Pt := ⟨(p.x * q.y + q.x * p.y) * invF (1 + dF * p.x * q.x * p.y * q.y), (p.y * q.y + p.x * q.x) * invF (1 - dF * p.x * q.x * p.y * q.y)⟩
def pzero : Pt := ⟨0, 1⟩
def pneg (p : Pt) : Pt := ⟨-p.x, p.y⟩
theorem On_zero : On pzero := by unfold On pzero; show (1 : Fp) * 1 - 0 * 0 = 1 + dF * (0 * 0 * (1 * 1)); generalize dF = d; grobner
theorem On_neg {p : Pt} (h : On p) : On (pneg p) := by
  unfold On pneg at *
  show p.y * p.y - (-p.x) * (-p.x) = 1 + dF * ((-p.x) * (-p.x) * (p.y * p.y))
  generalize dF = d at *
  grobner
theorem quot_eq {a b u v : Fp} (hu : u ≠ 0) (hv : v ≠ 0) : a * invF u = b * invF v ↔ a * v = b * u := by
  have h1 := inv_mulF hu
  have h2 := inv_mulF hv
  constructor
  · intro h
    have e1 : a * v = (a * invF u) * (u * v) := by clear h h2; grobner
    rw [e1, h]
    clear h h1 e1
    grobner
  · intro h
    refine cancelF (mul_ne hu hv) ?_
    clear hu hv
    have e1 : u * v * (a * invF u) = a * v := by clear h h2; grobner
    have e2 : u * v * (b * invF v) = b * u := by clear h h1; grobner
    rw [e1, e2, h]
theorem padd_comm (p q : Pt) : padd p q = padd q p := by
  unfold padd
  have e : dF * p.x * q.x * p.y * q.y = dF * q.x * p.x * q.y * p.y := by generalize dF = d; grobner
  rw [e, show p.x * q.y + q.x * p.y = q.x * p.y + p.x * q.y from by grobner, show p.y * q.y + p.x * q.x = q.y * p.y + q.x * p.x from by grobner]
theorem inv_one : invF 1 = 1 := (inv_uniq (by decide +kernel)).symm
theorem padd_zero (p : Pt) : padd p pzero = p := by
  unfold padd pzero
  show Pt.mk ((p.x * 1 + 0 * p.y) * invF (1 + dF * p.x * 0 * p.y * 1)) ((p.y * 1 + p.x * 0) * invF (1 - dF * p.x * 0 * p.y * 1)) = p
  rw [show 1 + dF * p.x * 0 * p.y * 1 = 1 from by generalize dF = d; grobner, show 1 - dF * p.x * 0 * p.y * 1 = 1 from by generalize dF = d; grobner, inv_one]
  cases p with
  | mk x y => congr 1 <;> (simp only; grobner)
theorem padd_neg {p : Pt} (h : On p) : padd p (pneg p) = pzero := by
  have h1 := den_minus h (On_neg h)
  unfold padd pneg pzero at *
  show Pt.mk ((p.x * p.y + (-p.x) * p.y) * invF (1 + dF * p.x * (-p.x) * p.y * p.y)) ((p.y * p.y + p.x * (-p.x)) * invF (1 - dF * p.x * (-p.x) * p.y * p.y)) = ⟨0, 1⟩
  have e1 : p.x * p.y + (-p.x) * p.y = 0 := by grobner
  have e2 : p.y * p.y + p.x * (-p.x) = 1 - dF * p.x * (-p.x) * p.y * p.y := by
    unfold On at h
    generalize dF = d at *
    clear h1 e1
    grobner
  rw [e1, zero_mulF, e2]
  have := inv_mulF h1
  congr 1
  rw [Fin.mul_comm]
  exact this
theorem closure (d x1 y1 x2 y2 : Fp) (h1 : y1*y1 - x1*x1 = 1 + d*(x1*x1*(y1*y1))) (h2 : y2*y2 - x2*x2 = 1 + d*(x2*x2*(y2*y2))) :
    ((y1*y2+x1*x2)*(y1*y2+x1*x2))*((1+d*x1*x2*y1*y2)*(1+d*x1*x2*y1*y2)) - ((x1*y2+x2*y1)*(x1*y2+x2*y1))*((1-d*x1*x2*y1*y2)*(1-d*x1*x2*y1*y2)) = ((1+d*x1*x2*y1*y2)*(1+d*x1*x2*y1*y2))*((1-d*x1*x2*y1*y2)*(1-d*x1*x2*y1*y2)) + d*((x1*y2+x2*y1)*(x1*y2+x2*y1)*((y1*y2+x1*x2)*(y1*y2+x1*x2))) := by grobner
theorem closure2 (d A B u v i j : Fp) (hi : i * u = 1) (hj : j * v = 1) (h : B*B*(u*u) - A*A*(v*v) = u*u*(v*v) + d*(A*A*(B*B))) : B*j*(B*j) - A*i*(A*i) = 1 + d*(A*i*(A*i)*(B*j*(B*j))) := by grobner
theorem On_add {p q : Pt} (hp : On p) (hq : On q) : On (padd p q) := by
  have h1 := inv_mulF (den_plus hp hq)
  have h2 := inv_mulF (den_minus hp hq)
  exact closure2 dF _ _ _ _ _ _ h1 h2 (closure dF _ _ _ _ hp hq)
set_option maxHeartbeats 4000000 in
theorem assocx (d x1 y1 x2 y2 x3 y3 : Fp) (h1 : y1*y1 - x1*x1 = 1 + d*(x1*x1*(y1*y1))) (h2 : y2*y2 - x2*x2 = 1 + d*(x2*x2*(y2*y2))) (h3 : y3*y3 - x3*x3 = 1 + d*(x3*x3*(y3*y3))) :
    ((x1*y2+x2*y1)*(1-d*x1*x2*y1*y2)*y3 + x3*(y1*y2+x1*x2)*(1+d*x1*x2*y1*y2))*((1+d*x2*x3*y2*y3)*(1-d*x2*x3*y2*y3) + d*x1*y1*(x2*y3+x3*y2)*(y2*y3+x2*x3)) = (x1*(y2*y3+x2*x3)*(1+d*x2*x3*y2*y3) + (x2*y3+x3*y2)*(1-d*x2*x3*y2*y3)*y1)*((1+d*x1*x2*y1*y2)*(1-d*x1*x2*y1*y2) + d*x3*y3*(x1*y2+x2*y1)*(y1*y2+x1*x2)) := by grobner
set_option maxHeartbeats 4000000 in
theorem assocy (d x1 y1 x2 y2 x3 y3 : Fp) (h1 : y1*y1 - x1*x1 = 1 + d*(x1*x1*(y1*y1))) (h2 : y2*y2 - x2*x2 = 1 + d*(x2*x2*(y2*y2))) (h3 : y3*y3 - x3*x3 = 1 + d*(x3*x3*(y3*y3))) :
    ((y1*y2+x1*x2)*(1+d*x1*x2*y1*y2)*y3 + (x1*y2+x2*y1)*(1-d*x1*x2*y1*y2)*x3)*((1+d*x2*x3*y2*y3)*(1-d*x2*x3*y2*y3) - d*x1*y1*(x2*y3+x3*y2)*(y2*y3+x2*x3)) = (y1*(y2*y3+x2*x3)*(1+d*x2*x3*y2*y3) + x1*(x2*y3+x3*y2)*(1-d*x2*x3*y2*y3))*((1+d*x1*x2*y1*y2)*(1-d*x1*x2*y1*y2) - d*x3*y3*(x1*y2+x2*y1)*(y1*y2+x1*x2)) := by grobner
theorem asx (d x1 y1 x3 y3 A B u v C D w z i j k l : Fp) (hi : i * u = 1) (hj : j * v = 1) (hk : k * w = 1) (hl : l * z = 1) :
    (u * v) * (w * z) * ((A * i * y3 + x3 * (B * j)) * (1 + d * x1 * (C * k) * y1 * (D * l))) = (A * v * y3 + x3 * B * u) * (w * z + d * x1 * y1 * C * D) := by grobner
theorem asx2 (d x1 y1 x3 y3 A B u v C D w z i j k l : Fp) (hi : i * u = 1) (hj : j * v = 1) (hk : k * w = 1) (hl : l * z = 1) :
    (u * v) * (w * z) * ((x1 * (D * l) + C * k * y1) * (1 + d * (A * i) * x3 * (B * j) * y3)) = (x1 * D * w + C * z * y1) * (u * v + d * x3 * y3 * A * B) := by grobner
theorem asy (d x1 y1 x3 y3 A B u v C D w z i j k l : Fp) (hi : i * u = 1) (hj : j * v = 1) (hk : k * w = 1) (hl : l * z = 1) :
    (u * v) * (w * z) * ((B * j * y3 + A * i * x3) * (1 - d * x1 * (C * k) * y1 * (D * l))) = (B * u * y3 + A * v * x3) * (w * z - d * x1 * y1 * C * D) := by grobner
theorem asy2 (d x1 y1 x3 y3 A B u v C D w z i j k l : Fp) (hi : i * u = 1) (hj : j * v = 1) (hk : k * w = 1) (hl : l * z = 1) :
    (u * v) * (w * z) * ((y1 * (D * l) + x1 * (C * k)) * (1 - d * (A * i) * x3 * (B * j) * y3)) = (y1 * D * w + x1 * C * z) * (u * v - d * x3 * y3 * A * B) := by grobner
theorem padd_assoc {p q r : Pt} (hp : On p) (hq : On q) (hr : On r) : padd (padd p q) r = padd p (padd q r) := by
  have u1 := den_plus hp hq
  have v1 := den_minus hp hq
  have w1 := den_plus hq hr
  have z1 := den_minus hq hr
  have nz := mul_ne (mul_ne u1 v1) (mul_ne w1 z1)
  have a1 := den_plus (On_add hp hq) hr
  have a2 := den_minus (On_add hp hq) hr
  have b1 := den_plus hp (On_add hq hr)
  have b2 := den_minus hp (On_add hq hr)
  have ex : (padd (padd p q) r).x = (padd p (padd q r)).x := by
    refine (quot_eq a1 b1).2 (cancelF nz ?_)
    exact (asx dF p.x p.y r.x r.y _ _ _ _ _ _ _ _ _ _ _ _ (inv_mulF u1) (inv_mulF v1) (inv_mulF w1) (inv_mulF z1)).trans ((assocx dF p.x p.y q.x q.y r.x r.y hp hq hr).trans (asx2 dF p.x p.y r.x r.y _ _ _ _ _ _ _ _ _ _ _ _ (inv_mulF u1) (inv_mulF v1) (inv_mulF w1) (inv_mulF z1)).symm)
  have ey : (padd (padd p q) r).y = (padd p (padd q r)).y := by
    refine (quot_eq a2 b2).2 (cancelF nz ?_)
    exact (asy dF p.x p.y r.x r.y _ _ _ _ _ _ _ _ _ _ _ _ (inv_mulF u1) (inv_mulF v1) (inv_mulF w1) (inv_mulF z1)).trans ((assocy dF p.x p.y q.x q.y r.x r.y hp hq hr).trans (asy2 dF p.x p.y r.x r.y _ _ _ _ _ _ _ _ _ _ _ _ (inv_mulF u1) (inv_mulF v1) (inv_mulF w1) (inv_mulF z1)).symm)
  cases h : padd (padd p q) r with
  | mk a b => cases h' : padd p (padd q r) with
    | mk c e => rw [h, h'] at ex ey; simp only at ex ey; rw [ex, ey]
def pmul (p : Pt) : Nat → Pt
  | 0 => pzero
  | n + 1 => padd (pmul p n) p
theorem On_mul {p : Pt} (h : On p) (n : Nat) : On (pmul p n) := by
  induction n with
  | zero => exact On_zero
  | succ n ih => exact On_add ih h
theorem zero_padd (p : Pt) : padd pzero p = p := by rw [padd_comm, padd_zero]
theorem pmul_add {p : Pt} (h : On p) (m n : Nat) : pmul p (m + n) = padd (pmul p m) (pmul p n) := by
  induction n with
  | zero => rw [Nat.add_zero]; exact (padd_zero _).symm
  | succ n ih => rw [← Nat.add_assoc, pmul, ih, pmul, padd_assoc (On_mul h m) (On_mul h n) h]
theorem pmul_mul {p : Pt} (h : On p) (m n : Nat) : pmul p (m * n) = pmul (pmul p m) n := by
  induction n with
  | zero => rfl
  | succ n ih => rw [Nat.mul_succ, pmul_add h, ih, pmul]
end Go.Proofs.Ytcgncafhonlmlaa
namespace Go.Proofs.Ytcgncafhonlmlaa
structure Qt where
  X : Fp
  Y : Fp
  Z : Fp
  T : Fp
def Rep (P : Qt) (p : Pt) : Prop := P.Z ≠ 0 ∧ P.X = p.x * P.Z ∧ P.Y = p.y * P.Z ∧ P.T = p.x * p.y * P.Z
def qadd (P Q : Qt) : Qt :=
  let a := (P.Y - P.X) * (Q.Y - Q.X)
  let b := (P.Y + P.X) * (Q.Y + Q.X)
  let c := (dF + dF) * P.T * Q.T
  let d := (P.Z + P.Z) * Q.Z
  ⟨(b - a) * (d - c), (d + c) * (b + a), (d - c) * (d + c), (b - a) * (b + a)⟩
theorem quot_mul {a u w : Fp} (hu : u ≠ 0) (h : a = w * u) : a * invF u = w := by
  have := inv_mulF hu
  clear hu
  rw [h]
  grobner
theorem rep_add {P Q : Qt} {p q : Pt} (hp : On p) (hq : On q) (h1 : Rep P p) (h2 : Rep Q q) : Rep (qadd P Q) (padd p q) := by
  have d1 := den_plus hp hq
  have d2 := den_minus hp hq
  have i1 := inv_mulF d1
  have i2 := inv_mulF d2
  obtain ⟨z1, x1, y1, t1⟩ := h1
  obtain ⟨z2, x2, y2, t2⟩ := h2
  obtain ⟨X1, Y1, Z1, T1⟩ := P
  obtain ⟨X2, Y2, Z2, T2⟩ := Q
  obtain ⟨px, py⟩ := p
  obtain ⟨qx, qy⟩ := q
  unfold Rep qadd padd at *
  simp only at *
  subst x1 y1 t1 x2 y2 t2
  generalize dF = d at *
  have ef : (Z1 + Z1) * Z2 - (d + d) * (px * py * Z1) * (qx * qy * Z2) = 2 * (Z1 * Z2) * (1 - d * px * qx * py * qy) := by clear i1 i2 hp hq d1 d2 z1 z2; grobner
  have eg : (Z1 + Z1) * Z2 + (d + d) * (px * py * Z1) * (qx * qy * Z2) = 2 * (Z1 * Z2) * (1 + d * px * qx * py * qy) := by clear i1 i2 hp hq d1 d2 z1 z2 ef; grobner
  have ee : (py * Z1 + px * Z1) * (qy * Z2 + qx * Z2) - (py * Z1 - px * Z1) * (qy * Z2 - qx * Z2) = 2 * (Z1 * Z2) * (px * qy + qx * py) := by clear i1 i2 hp hq d1 d2 z1 z2 ef eg; grobner
  have eh : (py * Z1 + px * Z1) * (qy * Z2 + qx * Z2) + (py * Z1 - px * Z1) * (qy * Z2 - qx * Z2) = 2 * (Z1 * Z2) * (py * qy + px * qx) := by clear i1 i2 hp hq d1 d2 z1 z2 ef eg ee; grobner
  rw [ef, eg, ee, eh]
  have nz : 2 * (Z1 * Z2) ≠ 0 := mul_ne two_ne (mul_ne z1 z2)
  generalize 2 * (Z1 * Z2) = m at *
  generalize 1 - d * px * qx * py * qy = v at *
  generalize 1 + d * px * qx * py * qy = u at *
  generalize px * qy + qx * py = A at *
  generalize py * qy + px * qx = B at *
  clear ef eg ee eh
  refine ⟨mul_ne (mul_ne nz d2) (mul_ne nz d1), ?_, ?_, ?_⟩ <;> (clear hp hq d1 d2 z1 z2 nz; grobner)
def aff (P : Qt) : Pt := ⟨P.X * invF P.Z, P.Y * invF P.Z⟩
theorem rep_aff {P : Qt} {p : Pt} (h : Rep P p) : aff P = p := by
  obtain ⟨z, x, y, _⟩ := h
  obtain ⟨px, py⟩ := p
  unfold aff
  rw [quot_mul z x, quot_mul z y]
def qzero : Qt := ⟨0, 1, 1, 0⟩
theorem rep_zero : Rep qzero pzero := ⟨one_neF, by decide +kernel, by decide +kernel, by decide +kernel⟩
def qmul (P : Qt) (e : Nat) : Nat → Qt
  | 0 => qzero
  | j + 1 => if e / 2 ^ (255 - j) % 2 = 1 then qadd (qadd (qmul P e j) (qmul P e j)) P else qadd (qmul P e j) (qmul P e j)
theorem rep_mul {P : Qt} {p : Pt} (hp : On p) (h : Rep P p) (e : Nat) (he : e < 2 ^ 256) : ∀ j, j ≤ 256 → Rep (qmul P e j) (pmul p (e / 2 ^ (256 - j))) := by
  intro j
  induction j with
  | zero =>
    intro _
    rw [show e / 2 ^ (256 - 0) = 0 from Nat.div_eq_of_lt he]
    exact rep_zero
  | succ j ih =>
    intro hj
    have h1 := ih (by omega)
    have o1 := On_mul hp (e / 2 ^ (256 - j))
    have h2 := rep_add o1 o1 h1 h1
    rw [← pmul_add hp] at h2
    have hq : e / 2 ^ (256 - (j + 1)) = e / 2 ^ (256 - j) + e / 2 ^ (256 - j) + e / 2 ^ (255 - j) % 2 := by
      rw [show 256 - (j + 1) = 255 - j by omega, show 256 - j = (255 - j) + 1 by omega, Nat.pow_succ, ← Nat.div_div_eq_div_mul]
      omega
    rw [qmul, hq]
    by_cases hc : e / 2 ^ (255 - j) % 2 = 1
    · rw [if_pos hc, hc]
      exact rep_add (On_mul hp _) hp h2 h
    · rw [if_neg hc, show e / 2 ^ (255 - j) % 2 = 0 by omega]
      exact h2
theorem rep_times {P : Qt} {p : Pt} (hp : On p) (h : Rep P p) (e : Nat) (he : e < 2 ^ 256) : Rep (qmul P e 256) (pmul p e) := by
  have := rep_mul hp h e he 256 (Nat.le_refl _)
  rwa [Nat.sub_self, Nat.pow_zero, Nat.div_one] at this
theorem yden (y : Fp) : dF * (y * y) + 1 ≠ 0 := fun h => by
  by_cases hy : y = 0
  · rw [hy] at h
    have : (1 : Fp) = 0 := by rw [← h]; generalize dF = d; grobner
    exact one_neF this
  · refine dF_nosq (u := iF) hy ?_
    rw [iF_sq]
    generalize dF = d at *
    clear hy
    grobner
theorem On_iff (x y : Fp) : On ⟨x, y⟩ ↔ x * x = (y * y - 1) * invF (dF * (y * y) + 1) := by
  have h := inv_mulF (yden y)
  have hne := yden y
  unfold On
  simp only
  generalize dF = d at *
  constructor
  · intro h1
    refine cancelF hne ?_
    clear hne
    grobner
  · intro h1
    clear hne
    grobner
def bX : Fp := zf 15112221349535400772501151409588531511454012693041857206046113283949847762202
def bY : Fp := zf 46316835694926478169428394003475163141307993866256225615783033603165251855960
def pB_ : Pt := ⟨bX, bY⟩
theorem On_base : On pB_ := by
  unfold On pB_ bX bY dF
  decide +kernel
def L25519 : Nat := 7237005577332262213973186563042994240857116359379907606001950938285454250989
def nadd (P Q : Nat × Nat × Nat × Nat) : Nat × Nat × Nat × Nat :=
  let a := (P.2.1 + PP - P.1) * (Q.2.1 + PP - Q.1) % PP
  let b := (P.2.1 + P.1) * (Q.2.1 + Q.1) % PP
  let c := 2 * 37095705934669439343138083508754565189542113879843219016388785533085940283555 * P.2.2.2 % PP * Q.2.2.2 % PP
  let d := 2 * P.2.2.1 * Q.2.2.1 % PP
  ((b + PP - a) * (d + PP - c) % PP, (d + c) * (b + a) % PP, (d + PP - c) * (d + c) % PP, (b + PP - a) * (b + a) % PP)
def nQ (P : Nat × Nat × Nat × Nat) : Qt := ⟨zf P.1, zf P.2.1, zf P.2.2.1, zf P.2.2.2⟩
def nOk (P : Nat × Nat × Nat × Nat) : Prop := P.1 < PP ∧ P.2.1 < PP ∧ P.2.2.1 < PP ∧ P.2.2.2 < PP
theorem zf_subP (a b : Nat) (h : b < PP) : zf (a + PP - b) = zf a - zf b := by
  rw [zf_sub _ _ (by omega), zf_add, zf_P]
  generalize zf a = x
  generalize zf b = y
  grobner
theorem PP_pos : 0 < PP := by decide
theorem nadd_Q {P Q : Nat × Nat × Nat × Nat} (hP : nOk P) (hQ : nOk Q) : nQ (nadd P Q) = qadd (nQ P) (nQ Q) ∧ nOk (nadd P Q) := by
  obtain ⟨x1, y1, z1, t1⟩ := P
  obtain ⟨x2, y2, z2, t2⟩ := Q
  obtain ⟨p1, p2, p3, p4⟩ := hP
  obtain ⟨q1, q2, q3, q4⟩ := hQ
  have ml : ∀ n, n % PP < PP := fun n => Nat.mod_lt _ PP_pos
  refine ⟨?_, ml _, ml _, ml _, ml _⟩
  unfold nQ nadd qadd
  simp only [zf_mod, zf_mul, zf_add]
  rw [zf_subP _ _ p1, zf_subP _ _ q1, zf_subP _ _ (ml _), zf_subP _ _ (ml _)]
  simp only [zf_mod, zf_mul, zf_add]
  rw [zf_subP _ _ p1, zf_subP _ _ q1]
  have h2 : zf 2 = 1 + 1 := by decide +kernel
  have hd : zf 37095705934669439343138083508754565189542113879843219016388785533085940283555 = dF := by unfold dF; rfl
  rw [h2, hd]
  have e1 : (1 + 1) * dF * zf t1 * zf t2 = (dF + dF) * zf t1 * zf t2 := by generalize dF = d; generalize zf t1 = u; generalize zf t2 = v; grobner
  have e2 : (1 + 1) * zf z1 * zf z2 = (zf z1 + zf z1) * zf z2 := by generalize zf z1 = u; generalize zf z2 = v; grobner
  rw [e1, e2]
def nmul (P : Nat × Nat × Nat × Nat) (e : Nat) : Nat → Nat × Nat × Nat × Nat
  | 0 => (0, 1, 1, 0)
  | j + 1 => if e / 2 ^ (255 - j) % 2 = 1 then nadd (nadd (nmul P e j) (nmul P e j)) P else nadd (nmul P e j) (nmul P e j)
theorem nmul_Q {P : Nat × Nat × Nat × Nat} (hP : nOk P) (e j : Nat) : nQ (nmul P e j) = qmul (nQ P) e j ∧ nOk (nmul P e j) := by
  induction j with
  | zero => exact ⟨rfl, by unfold nOk nmul; decide⟩
  | succ j ih =>
    obtain ⟨a1, a2⟩ := nadd_Q ih.2 ih.2
    rw [nmul, qmul, ← ih.1]
    by_cases hc : e / 2 ^ (255 - j) % 2 = 1
    · obtain ⟨b1, b2⟩ := nadd_Q a2 hP
      rw [if_pos hc, if_pos hc, ← a1]
      exact ⟨b1, b2⟩
    · rw [if_neg hc, if_neg hc]
      exact ⟨a1, a2⟩
def nB : Nat × Nat × Nat × Nat := (15112221349535400772501151409588531511454012693041857206046113283949847762202, 46316835694926478169428394003475163141307993866256225615783033603165251855960, 1, 46827403850823179245072216630277197565144205554125654976674165829533817101731)
theorem nB_ok : nOk nB := by unfold nOk nB; decide
theorem nB_rep : Rep (nQ nB) pB_ := by
  unfold Rep nQ nB pB_ bX bY
  decide +kernel
theorem nL : (nmul nB L25519 256).1 = 0 ∧ (nmul nB L25519 256).2.1 = (nmul nB L25519 256).2.2.1 := by decide +kernel
attribute [irreducible] nmul
theorem L_base : pmul pB_ L25519 = pzero := by
  have h := rep_times On_base nB_rep L25519 (by unfold L25519; decide)
  have e := (nmul_Q nB_ok L25519 256).1
  rw [← e] at h
  obtain ⟨n1, n2⟩ := nL
  rw [← rep_aff h]
  obtain ⟨z, _⟩ := h
  unfold aff nQ pzero
  unfold nQ at z
  simp only at z ⊢
  rw [n1, n2, zf_zero, zero_mulF]
  have h1 := inv_mulF z
  rw [Fin.mul_comm] at h1
  rw [h1]
theorem pmul_pzero (n : Nat) : pmul pzero n = pzero := by
  induction n with
  | zero => rfl
  | succ n ih => rw [pmul, ih, padd_zero]
theorem base_mod (n : Nat) : pmul pB_ (n % L25519) = pmul pB_ n := by
  have h : n = L25519 * (n / L25519) + n % L25519 := (Nat.div_add_mod n L25519).symm
  have e : pmul pB_ n = padd (pmul pB_ (L25519 * (n / L25519))) (pmul pB_ (n % L25519)) := by
    rw [← pmul_add On_base, ← h]
  rw [e, pmul_mul On_base, L_base, pmul_pzero, zero_padd]
end Go.Proofs.Ytcgncafhonlmlaa
namespace Go.Proofs.Ytcgncafhonlmlaa
open Go.RowKit
def lmPow_L3_S (a : List (BitVec 64)) (e : List (BitVec 8)) (X2 : List (BitVec 64)) (j3 : Nat) : List (BitVec 64) := (if ((((nth e ((255 - j3) / 8)) >>> ((255 - j3) % 8)) &&& 1#8) == 1#8) = true then lmMul (lmMul X2 X2) a else lmMul X2 X2)
def lmPow_L3 (a : List (BitVec 64)) (e : List (BitVec 8)) : Nat → List (BitVec 64)
  | 0 => lmSmall 1#64
  | j3 + 1 => lmPow_L3_S a e (lmPow_L3 a e j3) j3
theorem lmPow_L3_len (a : List (BitVec 64)) (e : List (BitVec 8)) (ha : a.length = 5) (he : e.length = 32) (j3 : Nat) : (lmPow_L3 a e j3).length = 5 := by
  induction j3 with
  | zero => first | (simp [lmPow_L3, *]; done) | (simp [lmPow_L3, *]; omega)
  | succ j3 ih => rw [lmPow_L3.eq_2, lmPow_L3_S]; first | (simp [ih]; done) | (simp [ih]; omega) | (simp [*]; done) | (simp [*]; omega) | (split <;> first | (simp [ih]; done) | (simp [ih]; omega) | (simp [*]; done))
def lmPow (a : List (BitVec 64)) (e : List (BitVec 8)) : List (BitVec 64) := (lmPow_L3 a e 256)
set_option maxRecDepth 100000 in
set_option maxHeartbeats 2000000 in
theorem lmPow_ev (a : List (BitVec 64)) (e : List (BitVec 8)) (ha : a.length = 5) (he : e.length = 32) : Ev Try.prog (.call 97 [.agg (.a64 (a)), .agg (.a8 (e))] []) (.val (.agg (.a64 (lmPow a e))) []) := by
  have hP : Hid (lmPow a e = (lmPow_L3 a e 256)) := ⟨rfl⟩
  refine c_call Try.func97 rfl Try.ntmps97 rfl LEN_ ?_
  refine S_ ?_
  refine c_region ?_
  refine s_memN (m_box BX_ LEN_) APP_ rfl ?_
  refine s_memN (m_box BX_ LEN_) APP_ rfl ?_
  refine s_memN (m_alloc al_52 LEN_) APP_ rfl ?_
  refine s_nil ?_
  have hQ1 : (lmSmall 1#64).length = 5 := LQ_
  refine S_ ?_
  refine c_region ?_
  refine s_evN (e_callR (bs := []) (lmSmall_ev 1#64) ok_68 (by kernel_rfl) (by kernel_rfl) rfl VAL_) APP_ rfl ?_
  refine s_memN (m_alloc al_52 LEN_) APP_ rfl ?_
  refine s_storeR rfl rfl rfl rfl sz_52 EQ_ EQ_ SET_ ?_
  refine s_nil ?_
  refine S_ ?_
  refine c_region ?_
  refine s_val (v_assignC rfl) rfl ?_
  refine s_nil ?_
  refine S_ ?_
  refine c_loopC [2, 3, 4, 5, 6] (fun (zz : Nat × List (BitVec 64)) => ⟨28, keepT [2, 3, 4, 5, 6] [.c (.ptr 0 0), .c (.ptr 1 0), .c (.ptr 2 0), .c (.ptr 3 0), .c (.val (.int .i64 (((255 : Nat) : Int) - ((zz.1 : Nat) : Int))))], [.row true (.a64 (a)), .row true (.a8 (e)), .row true (.a64 (zer64 5)), .row true (.a64 (zz.2))]⟩) (fun j3 => (j3, lmPow_L3 a e j3)) (256) (by kernel_rfl) ?_ ?_
  · intro j3 hj3
    try dsimp only
    have hX2 : (lmPow_L3 a e j3).length = 5 := by rw [lmPow_L3_len a e ha he _]; try omega
    rw [lmPow_L3.eq_2, lmPow_L3_S]
    generalize lmPow_L3 a e j3 = X2 at *
    rw [show ((255 : Nat) : Int) - ((j3 : Nat) : Int) = ((255 - j3 : Nat) : Int) from by omega]
    refine S_ ?_
    refine c_region ?_
    refine s_val (v_moveC rfl) rfl ?_
    refine s_val (v_geqN (b := 0) rfl rfl) rfl ?_
    refine s_nil ?_
    have hQ3 : (lmMul X2 X2).length = 5 := LQ_
    refine S_ ?_
    refine c_region ?_
    refine s_val (v_loadR rfl rfl row_52 sz_52 EQ_ (by decide)) rfl ?_
    refine s_val (v_loadR rfl rfl row_52 sz_52 EQ_ (by decide)) rfl ?_
    refine s_evN (e_callR (bs := []) (lmMul_ev X2 X2 HYP_ HYP_) ok_65 (by kernel_rfl) (by kernel_rfl) rfl VAL_) APP_ rfl ?_
    refine s_storeR rfl rfl rfl rfl sz_52 EQ_ EQ_ SET_ ?_
    refine s_nil ?_
    refine S_ ?_
    refine c_region ?_
    refine s_val (v_moveC rfl) rfl ?_
    refine s_val (v_quoN (b := 8) rfl rfl (by omega) (by omega)) rfl ?_
    refine s_val (v_idxA1 rfl rfl Try.underlying22 sz_5 (by omega)) rfl ?_
    refine s_val (v_load8 rfl rfl row_5 LT_) rfl ?_
    refine s_val (v_moveC rfl) rfl ?_
    refine s_val (v_remN (b := 8) rfl rfl (by omega) (by omega)) rfl ?_
    refine s_val (v_shr8n rfl rfl) rfl ?_
    refine s_val (v_and8 (b := 1#8) rfl rfl) rfl ?_
    refine s_val (v_eql8 (b := 1#8) rfl rfl) rfl ?_
    refine s_nil ?_
    refine Q_ ?_
    refine c_join [2, 3, 4, 5, 6] (fun (zz : List (BitVec 64)) => ⟨28, keepT [2, 3, 4, 5, 6] [.c (.ptr 0 0), .c (.ptr 1 0), .c (.ptr 2 0), .c (.ptr 3 0), .c (.val (.int .i64 (((255 - j3 : Nat) : Int))))], [.row true (.a64 (a)), .row true (.a8 (e)), .row true (.a64 (zer64 5)), .row true (.a64 (zz))]⟩) (if ((((nth e ((255 - j3) / 8)) >>> ((255 - j3) % 8)) &&& 1#8) == 1#8) = true then lmMul (lmMul X2 X2) a else lmMul X2 X2) rfl (fun hb => ?_) (fun hb => ?_) ?_
    · -- the test is True
      have hQ5 : (lmMul (lmMul X2 X2) a).length = 5 := LQ_
      refine S_ ?_
      refine c_region ?_
      refine s_val (v_loadR rfl rfl row_52 sz_52 EQ_ (by decide)) rfl ?_
      refine s_val (v_loadR rfl rfl row_52 sz_52 EQ_ (by decide)) rfl ?_
      refine s_evN (e_callR (bs := []) (lmMul_ev (lmMul X2 X2) a HYP_ HYP_) ok_65 (by kernel_rfl) (by kernel_rfl) rfl VAL_) APP_ rfl ?_
      refine s_storeR rfl rfl rfl rfl sz_52 EQ_ EQ_ SET_ ?_
      refine s_nil ?_
      refine S_ ?_
      refine ⟨(lmMul (lmMul X2 X2) a), by kernel_rfl, ?_⟩
      rw [if_pos (hb)]
    · -- the test is False
      refine S_ ?_
      refine ⟨(lmMul X2 X2), by kernel_rfl, ?_⟩
      rw [if_neg (by first | (rw [hb]; decide) | simp [hb])]
    have hJ4 : (if ((((nth e ((255 - j3) / 8)) >>> ((255 - j3) % 8)) &&& 1#8) == 1#8) = true then lmMul (lmMul X2 X2) a else lmMul X2 X2).length = 5 := by split <;> simp [*]
    generalize (if ((((nth e ((255 - j3) / 8)) >>> ((255 - j3) % 8)) &&& 1#8) == 1#8) = true then lmMul (lmMul X2 X2) a else lmMul X2 X2) = J4 at *
    refine S_ ?_
    refine c_region ?_
    refine s_val (v_moveC rfl) rfl ?_
    first
      | refine s_val (v_subN (b := 1) rfl rfl (by omega) (by omega)) rfl ?_
      | refine s_val (v_subI rfl rfl (by omega)) rfl ?_
    refine s_val (v_assignC rfl) rfl ?_
    refine s_nil ?_
    refine ⟨(j3 + 1, _), (by
      dsimp only
      rw [show ((255 : Nat) : Int) - ((j3 + 1 : Nat) : Int) = ((255 - j3 : Nat) : Int) - 1 from by omega]
      kernel_rfl), rfl⟩
  · try dsimp only
    have hY6 : (lmPow_L3 a e 256).length = 5 := by rw [lmPow_L3_len a e ha he _]; try omega
    generalize lmPow_L3 a e 256 = Y6 at *
    refine S_ ?_
    refine c_region ?_
    refine s_val (v_moveC rfl) rfl ?_
    refine s_val (v_geqI rfl rfl) rfl ?_
    refine s_nil ?_
    refine S_ ?_
    refine c_region ?_
    refine s_val (v_loadR rfl rfl row_52 sz_52 EQ_ (by decide)) rfl ?_
    refine s_storeR rfl rfl rfl rfl sz_52 EQ_ EQ_ SET_ ?_
    refine s_nil ?_
    refine S_ ?_
    rw [hP.out]
    exact k_1 (r_row rfl rfl row_52 sz_52 EQ_ (by decide)) (by first | kernel_rfl | rfl)
@[simp] theorem lmPow_len (a : List (BitVec 64)) (e : List (BitVec 8)) (ha : a.length = 5) (he : e.length = 32) : (lmPow a e).length = 5 := by
  unfold lmPow
  first | (simp [lmPow_L3_len, *]; done) | (simp [lmPow_L3_len, *]; omega)
attribute [irreducible] lmPow
end Go.Proofs.Ytcgncafhonlmlaa
namespace Go.Proofs.Ytcgncafhonlmlaa
open Go.RowKit
def lmBelA_L3_S (X1 : List (BitVec 8)) (j3 : Nat) : List (BitVec 8) := put X1 (j3 / 8) ((nth X1 (j3 / 8)) ||| (1#8 <<< (j3 % 8)))
def lmBelA_L3  : Nat → List (BitVec 8)
  | 0 => zer8 32
  | j3 + 1 => lmBelA_L3_S (lmBelA_L3 j3) j3
@[simp] theorem lmBelA_L3_len  (j3 : Nat) : (lmBelA_L3 j3).length = 32 := by
  induction j3 with
  | zero => first | (simp [lmBelA_L3, *]; done) | (simp [lmBelA_L3, *]; omega)
  | succ j3 ih => rw [lmBelA_L3.eq_2, lmBelA_L3_S]; first | (simp [ih]; done) | (simp [ih]; omega) | (simp [*]; done) | (simp [*]; omega) | (split <;> first | (simp [ih]; done) | (simp [ih]; omega) | (simp [*]; done))
def lmBelA (k : BitVec 8) : List (BitVec 8) := put (lmBelA_L3 255) 0 ((nth (lmBelA_L3 255) 0) - (k - 1#8))
set_option maxRecDepth 100000 in
set_option maxHeartbeats 2000000 in
theorem lmBelA_ev (k : BitVec 8)  : Ev Try.prog (.call 98 [.c (.val (.int .i64 ((255 : Nat) : Int))), .c (.val (U8 k))] []) (.val (.agg (.a8 (lmBelA k))) []) := by
  have hP : Hid (lmBelA k = put (lmBelA_L3 255) 0 ((nth (lmBelA_L3 255) 0) - (k - 1#8))) := ⟨rfl⟩
  refine c_call Try.func98 rfl Try.ntmps98 rfl LEN_ ?_
  refine S_ ?_
  refine c_region ?_
  refine s_memN (m_alloc al_22 LEN_) APP_ rfl ?_
  refine s_nil ?_
  refine S_ ?_
  refine c_region ?_
  refine s_memN (m_alloc al_22 LEN_) APP_ rfl ?_
  refine s_nil ?_
  refine S_ ?_
  refine c_region ?_
  refine s_val (v_moveC rfl) rfl ?_
  refine s_val (v_moveC rfl) rfl ?_
  refine s_nil ?_
  refine S_ ?_
  refine c_loopC [1, 4, 5, 7, 8] (fun (zz : Nat × List (BitVec 8)) => ⟨28, keepT [1, 4, 5, 7, 8] [.c (.val (U8 (k))), .c (.ptr 0 0), .c (.ptr 1 0), .c (.val (.int .i64 (((255 : Nat) : Int)))), .c (.val (.int .i64 (((zz.1 : Nat) : Int))))], [.row true (.a8 (zer8 32)), .row true (.a8 (zz.2))]⟩) (fun j3 => (j3, lmBelA_L3 j3)) (255) (by kernel_rfl) ?_ ?_
  · intro j3 hj3
    try dsimp only
    have hX1 : (lmBelA_L3 j3).length = 32 := by rw [lmBelA_L3_len _]; try omega
    rw [lmBelA_L3.eq_2, lmBelA_L3_S]
    generalize lmBelA_L3 j3 = X1 at *
    refine S_ ?_
    refine c_region ?_
    refine s_val (v_lssN (b := 255) rfl rfl) rfl ?_
    refine s_nil ?_
    refine S_ ?_
    refine c_region ?_
    refine s_val (v_moveC rfl) rfl ?_
    refine s_val (v_assignC rfl) rfl ?_
    refine s_nil ?_
    refine S_ ?_
    refine c_draw 9 mixed (by kernel_rfl) rfl rfl rfl ?_
    refine h_val (v_moveC rfl) rfl ?_
    refine h_val (v_quoN (b := 8) rfl rfl (by omega) (by omega)) rfl ?_
    refine h_val (v_idxA1 rfl rfl Try.underlying22 sz_5 (by omega)) rfl ?_
    refine h_val (v_load8 rfl rfl row_5 LT_) rfl ?_
    refine h_val (v_moveC rfl) rfl ?_
    refine h_val (v_remN (b := 8) rfl rfl (by omega) (by omega)) rfl ?_
    refine h_val (v_shl8n (a := 1#8) rfl rfl) rfl ?_
    refine h_val (v_or8 rfl rfl) rfl ?_
    refine h_val (v_idxA1 rfl rfl Try.underlying22 sz_5 (by omega)) rfl ?_
    refine h_nil ?_
    refine s_store8 rfl rfl rfl sz_5 LT_ SET_ ?_
    refine s_nil ?_
    refine S_ ?_
    refine c_region ?_
    refine s_val (v_addN (b := 1) rfl rfl (by omega)) rfl ?_
    refine s_val (v_moveC rfl) rfl ?_
    refine s_nil ?_
    exact ⟨(j3 + 1, _), by kernel_rfl, rfl⟩
  · try dsimp only
    have hY2 : (lmBelA_L3 255).length = 32 := by rw [lmBelA_L3_len _]; try omega
    generalize lmBelA_L3 255 = Y2 at *
    refine S_ ?_
    refine c_region ?_
    refine s_val (v_lssN (a := 255) (b := 255) rfl rfl) rfl ?_
    refine s_nil ?_
    refine S_ ?_
    refine c_region ?_
    refine s_val (v_idxA1 (j := 0) rfl rfl Try.underlying22 sz_5 (by omega)) rfl ?_
    refine s_val (v_load8 rfl rfl row_5 LT_) rfl ?_
    refine s_val (v_moveC rfl) rfl ?_
    refine s_val (v_sub8 (b := 1#8) rfl rfl) rfl ?_
    refine s_val (v_sub8 rfl rfl) rfl ?_
    refine s_val (v_idxA1 (j := 0) rfl rfl Try.underlying22 sz_5 (by omega)) rfl ?_
    refine s_store8 rfl rfl rfl sz_5 LT_ SET_ ?_
    refine s_nil ?_
    refine S_ ?_
    refine c_region ?_
    refine s_val (v_loadR rfl rfl row_22 sz_22 EQ_ (by decide)) rfl ?_
    refine s_storeR rfl rfl rfl rfl sz_22 EQ_ EQ_ SET_ ?_
    refine s_nil ?_
    refine S_ ?_
    rw [hP.out]
    exact k_1 (r_row rfl rfl row_22 sz_22 EQ_ (by decide)) (by first | kernel_rfl | rfl)
@[simp] theorem lmBelA_len (k : BitVec 8) : (lmBelA k).length = 32 := by
  unfold lmBelA
  first | (simp [lmBelA_L3_len, *]; done) | (simp [lmBelA_L3_len, *]; omega)
attribute [irreducible] lmBelA
def lmBelB_L3_S (X1 : List (BitVec 8)) (j3 : Nat) : List (BitVec 8) := put X1 (j3 / 8) ((nth X1 (j3 / 8)) ||| (1#8 <<< (j3 % 8)))
def lmBelB_L3  : Nat → List (BitVec 8)
  | 0 => zer8 32
  | j3 + 1 => lmBelB_L3_S (lmBelB_L3 j3) j3
@[simp] theorem lmBelB_L3_len  (j3 : Nat) : (lmBelB_L3 j3).length = 32 := by
  induction j3 with
  | zero => first | (simp [lmBelB_L3, *]; done) | (simp [lmBelB_L3, *]; omega)
  | succ j3 ih => rw [lmBelB_L3.eq_2, lmBelB_L3_S]; first | (simp [ih]; done) | (simp [ih]; omega) | (simp [*]; done) | (simp [*]; omega) | (split <;> first | (simp [ih]; done) | (simp [ih]; omega) | (simp [*]; done))
def lmBelB (k : BitVec 8) : List (BitVec 8) := put (lmBelB_L3 252) 0 ((nth (lmBelB_L3 252) 0) - (k - 1#8))
set_option maxRecDepth 100000 in
set_option maxHeartbeats 2000000 in
theorem lmBelB_ev (k : BitVec 8)  : Ev Try.prog (.call 98 [.c (.val (.int .i64 ((252 : Nat) : Int))), .c (.val (U8 k))] []) (.val (.agg (.a8 (lmBelB k))) []) := by
  have hP : Hid (lmBelB k = put (lmBelB_L3 252) 0 ((nth (lmBelB_L3 252) 0) - (k - 1#8))) := ⟨rfl⟩
  refine c_call Try.func98 rfl Try.ntmps98 rfl LEN_ ?_
  refine S_ ?_
  refine c_region ?_
  refine s_memN (m_alloc al_22 LEN_) APP_ rfl ?_
  refine s_nil ?_
  refine S_ ?_
  refine c_region ?_
  refine s_memN (m_alloc al_22 LEN_) APP_ rfl ?_
  refine s_nil ?_
  refine S_ ?_
  refine c_region ?_
  refine s_val (v_moveC rfl) rfl ?_
  refine s_val (v_moveC rfl) rfl ?_
  refine s_nil ?_
  refine S_ ?_
  refine c_loopC [1, 4, 5, 7, 8] (fun (zz : Nat × List (BitVec 8)) => ⟨28, keepT [1, 4, 5, 7, 8] [.c (.val (U8 (k))), .c (.ptr 0 0), .c (.ptr 1 0), .c (.val (.int .i64 (((252 : Nat) : Int)))), .c (.val (.int .i64 (((zz.1 : Nat) : Int))))], [.row true (.a8 (zer8 32)), .row true (.a8 (zz.2))]⟩) (fun j3 => (j3, lmBelB_L3 j3)) (252) (by kernel_rfl) ?_ ?_
  · intro j3 hj3
    try dsimp only
    have hX1 : (lmBelB_L3 j3).length = 32 := by rw [lmBelB_L3_len _]; try omega
    rw [lmBelB_L3.eq_2, lmBelB_L3_S]
    generalize lmBelB_L3 j3 = X1 at *
    refine S_ ?_
    refine c_region ?_
    refine s_val (v_lssN (b := 252) rfl rfl) rfl ?_
    refine s_nil ?_
    refine S_ ?_
    refine c_region ?_
    refine s_val (v_moveC rfl) rfl ?_
    refine s_val (v_assignC rfl) rfl ?_
    refine s_nil ?_
    refine S_ ?_
    refine c_draw 9 mixed (by kernel_rfl) rfl rfl rfl ?_
    refine h_val (v_moveC rfl) rfl ?_
    refine h_val (v_quoN (b := 8) rfl rfl (by omega) (by omega)) rfl ?_
    refine h_val (v_idxA1 rfl rfl Try.underlying22 sz_5 (by omega)) rfl ?_
    refine h_val (v_load8 rfl rfl row_5 LT_) rfl ?_
    refine h_val (v_moveC rfl) rfl ?_
    refine h_val (v_remN (b := 8) rfl rfl (by omega) (by omega)) rfl ?_
    refine h_val (v_shl8n (a := 1#8) rfl rfl) rfl ?_
    refine h_val (v_or8 rfl rfl) rfl ?_
    refine h_val (v_idxA1 rfl rfl Try.underlying22 sz_5 (by omega)) rfl ?_
    refine h_nil ?_
    refine s_store8 rfl rfl rfl sz_5 LT_ SET_ ?_
    refine s_nil ?_
    refine S_ ?_
    refine c_region ?_
    refine s_val (v_addN (b := 1) rfl rfl (by omega)) rfl ?_
    refine s_val (v_moveC rfl) rfl ?_
    refine s_nil ?_
    exact ⟨(j3 + 1, _), by kernel_rfl, rfl⟩
  · try dsimp only
    have hY2 : (lmBelB_L3 252).length = 32 := by rw [lmBelB_L3_len _]; try omega
    generalize lmBelB_L3 252 = Y2 at *
    refine S_ ?_
    refine c_region ?_
    refine s_val (v_lssN (a := 252) (b := 252) rfl rfl) rfl ?_
    refine s_nil ?_
    refine S_ ?_
    refine c_region ?_
    refine s_val (v_idxA1 (j := 0) rfl rfl Try.underlying22 sz_5 (by omega)) rfl ?_
    refine s_val (v_load8 rfl rfl row_5 LT_) rfl ?_
    refine s_val (v_moveC rfl) rfl ?_
    refine s_val (v_sub8 (b := 1#8) rfl rfl) rfl ?_
    refine s_val (v_sub8 rfl rfl) rfl ?_
    refine s_val (v_idxA1 (j := 0) rfl rfl Try.underlying22 sz_5 (by omega)) rfl ?_
    refine s_store8 rfl rfl rfl sz_5 LT_ SET_ ?_
    refine s_nil ?_
    refine S_ ?_
    refine c_region ?_
    refine s_val (v_loadR rfl rfl row_22 sz_22 EQ_ (by decide)) rfl ?_
    refine s_storeR rfl rfl rfl rfl sz_22 EQ_ EQ_ SET_ ?_
    refine s_nil ?_
    refine S_ ?_
    rw [hP.out]
    exact k_1 (r_row rfl rfl row_22 sz_22 EQ_ (by decide)) (by first | kernel_rfl | rfl)
@[simp] theorem lmBelB_len (k : BitVec 8) : (lmBelB k).length = 32 := by
  unfold lmBelB
  first | (simp [lmBelB_L3_len, *]; done) | (simp [lmBelB_L3_len, *]; omega)
attribute [irreducible] lmBelB
def lmBelC_L3_S (X1 : List (BitVec 8)) (j3 : Nat) : List (BitVec 8) := put X1 (j3 / 8) ((nth X1 (j3 / 8)) ||| (1#8 <<< (j3 % 8)))
def lmBelC_L3  : Nat → List (BitVec 8)
  | 0 => zer8 32
  | j3 + 1 => lmBelC_L3_S (lmBelC_L3 j3) j3
@[simp] theorem lmBelC_L3_len  (j3 : Nat) : (lmBelC_L3 j3).length = 32 := by
  induction j3 with
  | zero => first | (simp [lmBelC_L3, *]; done) | (simp [lmBelC_L3, *]; omega)
  | succ j3 ih => rw [lmBelC_L3.eq_2, lmBelC_L3_S]; first | (simp [ih]; done) | (simp [ih]; omega) | (simp [*]; done) | (simp [*]; omega) | (split <;> first | (simp [ih]; done) | (simp [ih]; omega) | (simp [*]; done))
def lmBelC (k : BitVec 8) : List (BitVec 8) := put (lmBelC_L3 253) 0 ((nth (lmBelC_L3 253) 0) - (k - 1#8))
set_option maxRecDepth 100000 in
set_option maxHeartbeats 2000000 in
theorem lmBelC_ev (k : BitVec 8)  : Ev Try.prog (.call 98 [.c (.val (.int .i64 ((253 : Nat) : Int))), .c (.val (U8 k))] []) (.val (.agg (.a8 (lmBelC k))) []) := by
  have hP : Hid (lmBelC k = put (lmBelC_L3 253) 0 ((nth (lmBelC_L3 253) 0) - (k - 1#8))) := ⟨rfl⟩
  refine c_call Try.func98 rfl Try.ntmps98 rfl LEN_ ?_
  refine S_ ?_
  refine c_region ?_
  refine s_memN (m_alloc al_22 LEN_) APP_ rfl ?_
  refine s_nil ?_
  refine S_ ?_
  refine c_region ?_
  refine s_memN (m_alloc al_22 LEN_) APP_ rfl ?_
  refine s_nil ?_
  refine S_ ?_
  refine c_region ?_
  refine s_val (v_moveC rfl) rfl ?_
  refine s_val (v_moveC rfl) rfl ?_
  refine s_nil ?_
  refine S_ ?_
  refine c_loopC [1, 4, 5, 7, 8] (fun (zz : Nat × List (BitVec 8)) => ⟨28, keepT [1, 4, 5, 7, 8] [.c (.val (U8 (k))), .c (.ptr 0 0), .c (.ptr 1 0), .c (.val (.int .i64 (((253 : Nat) : Int)))), .c (.val (.int .i64 (((zz.1 : Nat) : Int))))], [.row true (.a8 (zer8 32)), .row true (.a8 (zz.2))]⟩) (fun j3 => (j3, lmBelC_L3 j3)) (253) (by kernel_rfl) ?_ ?_
  · intro j3 hj3
    try dsimp only
    have hX1 : (lmBelC_L3 j3).length = 32 := by rw [lmBelC_L3_len _]; try omega
    rw [lmBelC_L3.eq_2, lmBelC_L3_S]
    generalize lmBelC_L3 j3 = X1 at *
    refine S_ ?_
    refine c_region ?_
    refine s_val (v_lssN (b := 253) rfl rfl) rfl ?_
    refine s_nil ?_
    refine S_ ?_
    refine c_region ?_
    refine s_val (v_moveC rfl) rfl ?_
    refine s_val (v_assignC rfl) rfl ?_
    refine s_nil ?_
    refine S_ ?_
    refine c_draw 9 mixed (by kernel_rfl) rfl rfl rfl ?_
    refine h_val (v_moveC rfl) rfl ?_
    refine h_val (v_quoN (b := 8) rfl rfl (by omega) (by omega)) rfl ?_
    refine h_val (v_idxA1 rfl rfl Try.underlying22 sz_5 (by omega)) rfl ?_
    refine h_val (v_load8 rfl rfl row_5 LT_) rfl ?_
    refine h_val (v_moveC rfl) rfl ?_
    refine h_val (v_remN (b := 8) rfl rfl (by omega) (by omega)) rfl ?_
    refine h_val (v_shl8n (a := 1#8) rfl rfl) rfl ?_
    refine h_val (v_or8 rfl rfl) rfl ?_
    refine h_val (v_idxA1 rfl rfl Try.underlying22 sz_5 (by omega)) rfl ?_
    refine h_nil ?_
    refine s_store8 rfl rfl rfl sz_5 LT_ SET_ ?_
    refine s_nil ?_
    refine S_ ?_
    refine c_region ?_
    refine s_val (v_addN (b := 1) rfl rfl (by omega)) rfl ?_
    refine s_val (v_moveC rfl) rfl ?_
    refine s_nil ?_
    exact ⟨(j3 + 1, _), by kernel_rfl, rfl⟩
  · try dsimp only
    have hY2 : (lmBelC_L3 253).length = 32 := by rw [lmBelC_L3_len _]; try omega
    generalize lmBelC_L3 253 = Y2 at *
    refine S_ ?_
    refine c_region ?_
    refine s_val (v_lssN (a := 253) (b := 253) rfl rfl) rfl ?_
    refine s_nil ?_
    refine S_ ?_
    refine c_region ?_
    refine s_val (v_idxA1 (j := 0) rfl rfl Try.underlying22 sz_5 (by omega)) rfl ?_
    refine s_val (v_load8 rfl rfl row_5 LT_) rfl ?_
    refine s_val (v_moveC rfl) rfl ?_
    refine s_val (v_sub8 (b := 1#8) rfl rfl) rfl ?_
    refine s_val (v_sub8 rfl rfl) rfl ?_
    refine s_val (v_idxA1 (j := 0) rfl rfl Try.underlying22 sz_5 (by omega)) rfl ?_
    refine s_store8 rfl rfl rfl sz_5 LT_ SET_ ?_
    refine s_nil ?_
    refine S_ ?_
    refine c_region ?_
    refine s_val (v_loadR rfl rfl row_22 sz_22 EQ_ (by decide)) rfl ?_
    refine s_storeR rfl rfl rfl rfl sz_22 EQ_ EQ_ SET_ ?_
    refine s_nil ?_
    refine S_ ?_
    rw [hP.out]
    exact k_1 (r_row rfl rfl row_22 sz_22 EQ_ (by decide)) (by first | kernel_rfl | rfl)
@[simp] theorem lmBelC_len (k : BitVec 8) : (lmBelC k).length = 32 := by
  unfold lmBelC
  first | (simp [lmBelC_L3_len, *]; done) | (simp [lmBelC_L3_len, *]; omega)
attribute [irreducible] lmBelC
end Go.Proofs.Ytcgncafhonlmlaa
namespace Go.Proofs.Ytcgncafhonlmlaa
open Go.RowKit
def lmInv (a : List (BitVec 64)) : List (BitVec 64) := lmPow a (lmBelA 21#8)
set_option maxRecDepth 100000 in
set_option maxHeartbeats 2000000 in
theorem lmInv_ev (a : List (BitVec 64)) (ha : a.length = 5) : Ev Try.prog (.call 69 [.agg (.a64 (a))] []) (.val (.agg (.a64 (lmInv a))) []) := by
  have hP : Hid (lmInv a = lmPow a (lmBelA 21#8)) := ⟨rfl⟩
  refine c_call Try.func69 rfl Try.ntmps69 rfl LEN_ ?_
  refine S_ ?_
  refine c_region ?_
  refine s_memN (m_box BX_ LEN_) APP_ rfl ?_
  refine s_memN (m_alloc al_52 LEN_) APP_ rfl ?_
  refine s_nil ?_
  have hQ1 : (lmBelA 21#8).length = 32 := LQ_
  have hQ2 : (lmPow a (lmBelA 21#8)).length = 5 := LQ_
  refine S_ ?_
  refine c_draw 3 mixed (by kernel_rfl) rfl rfl rfl ?_
  refine h_val (v_loadR rfl rfl row_52 sz_52 EQ_ (by decide)) rfl ?_
  refine h_evN (e_callR (bs := []) (lmBelA_ev 21#8) ok_98 (by kernel_rfl) (by kernel_rfl) rfl VAL_) APP_ rfl ?_
  refine h_evN (e_callR (bs := []) (lmPow_ev a (lmBelA 21#8) HYP_ HYP_) ok_97 (by kernel_rfl) (by kernel_rfl) rfl VAL_) APP_ rfl ?_
  refine h_nil ?_
  refine s_storeR rfl rfl rfl rfl sz_52 EQ_ EQ_ SET_ ?_
  refine s_nil ?_
  refine S_ ?_
  rw [hP.out]
  exact k_1 (r_row rfl rfl row_52 sz_52 EQ_ (by decide)) (by first | kernel_rfl | rfl)
@[simp] theorem lmInv_len (a : List (BitVec 64)) (ha : a.length = 5) : (lmInv a).length = 5 := by
  unfold lmInv
  first | (simp [*]; done) | (simp [*]; omega)
attribute [irreducible] lmInv
set_option maxRecDepth 100000 in
set_option maxHeartbeats 2000000 in
theorem lmSame_ev (a : List (BitVec 64)) (b : List (BitVec 64)) (ha : a.length = 5) (hb : b.length = 5) : Ev Try.prog (.call 72 [.agg (.a64 (a)), .agg (.a64 (b))] []) (.val (.c (.val (.bool (decide (lmBytes a = lmBytes b))))) []) := by
  refine c_call Try.func72 rfl Try.ntmps72 rfl LEN_ ?_
  refine S_ ?_
  refine c_region ?_
  refine s_memN (m_box BX_ LEN_) APP_ rfl ?_
  refine s_memN (m_box BX_ LEN_) APP_ rfl ?_
  refine s_val (v_assignC rfl) rfl ?_
  refine s_nil ?_
  have hQ1 : (lmBytes a).length = 32 := LQ_
  have hQ2 : (lmBytes b).length = 32 := LQ_
  refine S_ ?_
  refine c_draw 6 mixed (by kernel_rfl) rfl rfl rfl ?_
  refine h_val (v_loadR rfl rfl row_52 sz_52 EQ_ (by decide)) rfl ?_
  refine h_evN (e_callR (bs := []) (lmBytes_ev a HYP_) ok_64 (by kernel_rfl) (by kernel_rfl) rfl VAL_) APP_ rfl ?_
  refine h_val (v_loadR rfl rfl row_52 sz_52 EQ_ (by decide)) rfl ?_
  refine h_evN (e_callR (bs := []) (lmBytes_ev b HYP_) ok_64 (by kernel_rfl) (by kernel_rfl) rfl VAL_) APP_ rfl ?_
  refine h_val (v_eqlR8 rfl rfl Try.underlying22 Try.underlying5 sz_5 EQ_ EQ_) rfl ?_
  refine h_val (v_assignC rfl) rfl ?_
  refine h_nil ?_
  refine s_nil ?_
  refine S_ ?_
  exact k_1 (by first | exact r_tmpC rfl | exact r_tmpA rfl) (by first | kernel_rfl | rfl)
set_option maxRecDepth 100000 in
set_option maxHeartbeats 2000000 in
theorem lmOdd_ev (a : List (BitVec 64)) (ha : a.length = 5) : Ev Try.prog (.call 73 [.agg (.a64 (a))] []) (.val (.c (.val (.bool ((((nth (lmBytes a) 0) &&& 1#8) == 1#8))))) []) := by
  refine c_call Try.func73 rfl Try.ntmps73 rfl LEN_ ?_
  refine S_ ?_
  refine c_region ?_
  refine s_memN (m_box BX_ LEN_) APP_ rfl ?_
  refine s_val (v_assignC rfl) rfl ?_
  refine s_nil ?_
  have hQ1 : (lmBytes a).length = 32 := LQ_
  refine S_ ?_
  refine c_region ?_
  refine s_val (v_loadR rfl rfl row_52 sz_52 EQ_ (by decide)) rfl ?_
  refine s_evN (e_callR (bs := []) (lmBytes_ev a HYP_) ok_64 (by kernel_rfl) (by kernel_rfl) rfl VAL_) APP_ rfl ?_
  refine s_val (v_ix8 (j := 0) rfl rfl Try.underlying22 sz_5 row_5 (by omega) LT_) rfl ?_
  refine s_val (v_and8 (b := 1#8) rfl rfl) rfl ?_
  refine s_val (v_eql8 (b := 1#8) rfl rfl) rfl ?_
  refine s_val (v_assignC rfl) rfl ?_
  refine s_nil ?_
  refine S_ ?_
  exact k_1 (by first | exact r_tmpC rfl | exact r_tmpA rfl) (by first | kernel_rfl | rfl)
end Go.Proofs.Ytcgncafhonlmlaa
namespace Go.Proofs.Ytcgncafhonlmlaa
open Go.RowKit
def lmRoot0 (a : List (BitVec 64)) : List (BitVec 64) := (if (!(decide (lmBytes (lmMul (lmPow a (lmBelB 2#8)) (lmPow a (lmBelB 2#8))) = lmBytes a))) = true then lmMul (lmPow a (lmBelB 2#8)) (lmPow (lmSmall 2#64) (lmBelC 5#8)) else lmPow a (lmBelB 2#8))
def lmRoot1 (a : List (BitVec 64)) : Bool := decide (lmBytes (lmMul (if (!(decide (lmBytes (lmMul (lmPow a (lmBelB 2#8)) (lmPow a (lmBelB 2#8))) = lmBytes a))) = true then lmMul (lmPow a (lmBelB 2#8)) (lmPow (lmSmall 2#64) (lmBelC 5#8)) else lmPow a (lmBelB 2#8)) (if (!(decide (lmBytes (lmMul (lmPow a (lmBelB 2#8)) (lmPow a (lmBelB 2#8))) = lmBytes a))) = true then lmMul (lmPow a (lmBelB 2#8)) (lmPow (lmSmall 2#64) (lmBelC 5#8)) else lmPow a (lmBelB 2#8))) = lmBytes a)
set_option maxRecDepth 100000 in
set_option maxHeartbeats 2000000 in
theorem lmRoot_ev (a : List (BitVec 64)) (ha : a.length = 5) : Ev Try.prog (.call 66 [.agg (.a64 (a))] []) (.val (.tup [.agg (.a64 (lmRoot0 a)), .c (.val (.bool (lmRoot1 a)))]) []) := by
  have hP_lmRoot0 : Hid (lmRoot0 a = (if (!(decide (lmBytes (lmMul (lmPow a (lmBelB 2#8)) (lmPow a (lmBelB 2#8))) = lmBytes a))) = true then lmMul (lmPow a (lmBelB 2#8)) (lmPow (lmSmall 2#64) (lmBelC 5#8)) else lmPow a (lmBelB 2#8))) := ⟨rfl⟩
  have hP_lmRoot1 : Hid (lmRoot1 a = decide (lmBytes (lmMul (if (!(decide (lmBytes (lmMul (lmPow a (lmBelB 2#8)) (lmPow a (lmBelB 2#8))) = lmBytes a))) = true then lmMul (lmPow a (lmBelB 2#8)) (lmPow (lmSmall 2#64) (lmBelC 5#8)) else lmPow a (lmBelB 2#8)) (if (!(decide (lmBytes (lmMul (lmPow a (lmBelB 2#8)) (lmPow a (lmBelB 2#8))) = lmBytes a))) = true then lmMul (lmPow a (lmBelB 2#8)) (lmPow (lmSmall 2#64) (lmBelC 5#8)) else lmPow a (lmBelB 2#8))) = lmBytes a)) := ⟨rfl⟩
  refine c_call Try.func66 rfl Try.ntmps66 rfl LEN_ ?_
  refine S_ ?_
  refine c_region ?_
  refine s_memN (m_box BX_ LEN_) APP_ rfl ?_
  refine s_memN (m_alloc al_52 LEN_) APP_ rfl ?_
  refine s_val (v_assignC rfl) rfl ?_
  refine s_nil ?_
  have hQ1 : (lmBelB 2#8).length = 32 := LQ_
  have hQ2 : (lmPow a (lmBelB 2#8)).length = 5 := LQ_
  refine S_ ?_
  refine c_draw 4 mixed (by kernel_rfl) rfl rfl rfl ?_
  refine h_val (v_loadR rfl rfl row_52 sz_52 EQ_ (by decide)) rfl ?_
  refine h_evN (e_callR (bs := []) (lmBelB_ev 2#8) ok_98 (by kernel_rfl) (by kernel_rfl) rfl VAL_) APP_ rfl ?_
  refine h_evN (e_callR (bs := []) (lmPow_ev a (lmBelB 2#8) HYP_ HYP_) ok_97 (by kernel_rfl) (by kernel_rfl) rfl VAL_) APP_ rfl ?_
  refine h_memN (m_alloc al_52 LEN_) APP_ rfl ?_
  refine h_nil ?_
  refine s_storeR rfl rfl rfl rfl sz_52 EQ_ EQ_ SET_ ?_
  refine s_nil ?_
  have hQ3 : (lmMul (lmPow a (lmBelB 2#8)) (lmPow a (lmBelB 2#8))).length = 5 := LQ_
  refine S_ ?_
  refine c_draw 6 mixed (by kernel_rfl) rfl rfl rfl ?_
  refine h_val (v_loadR rfl rfl row_52 sz_52 EQ_ (by decide)) rfl ?_
  refine h_val (v_loadR rfl rfl row_52 sz_52 EQ_ (by decide)) rfl ?_
  refine h_evN (e_callR (bs := []) (lmMul_ev (lmPow a (lmBelB 2#8)) (lmPow a (lmBelB 2#8)) HYP_ HYP_) ok_65 (by kernel_rfl) (by kernel_rfl) rfl VAL_) APP_ rfl ?_
  refine h_val (v_loadR rfl rfl row_52 sz_52 EQ_ (by decide)) rfl ?_
  refine h_evN (e_callR (bs := []) (lmSame_ev (lmMul (lmPow a (lmBelB 2#8)) (lmPow a (lmBelB 2#8))) a HYP_ HYP_) ok_72 (by kernel_rfl) (by kernel_rfl) rfl VAL_) APP_ rfl ?_
  refine h_val (v_unnotB rfl) rfl ?_
  refine h_nil ?_
  refine s_nil ?_
  refine Q_ ?_
  refine c_join [1, 2, 4] (fun (zz : List (BitVec 64)) => ⟨25, keepT [1, 2, 4] [.c (.ptr 0 0), .c (.ptr 1 0), .c (.ptr 2 0)], [.row true (.a64 (a)), .row true (.a64 (zer64 5)), .row true (.a64 (zz))]⟩) (if (!(decide (lmBytes (lmMul (lmPow a (lmBelB 2#8)) (lmPow a (lmBelB 2#8))) = lmBytes a))) = true then lmMul (lmPow a (lmBelB 2#8)) (lmPow (lmSmall 2#64) (lmBelC 5#8)) else lmPow a (lmBelB 2#8)) rfl (fun hb => ?_) (fun hb => ?_) ?_
  · -- the test is True
    have hQ5 : (lmSmall 2#64).length = 5 := LQ_
    have hQ6 : (lmBelC 5#8).length = 32 := LQ_
    have hQ7 : (lmPow (lmSmall 2#64) (lmBelC 5#8)).length = 5 := LQ_
    have hQ8 : (lmMul (lmPow a (lmBelB 2#8)) (lmPow (lmSmall 2#64) (lmBelC 5#8))).length = 5 := LQ_
    refine S_ ?_
    refine c_draw 5 mixed (by kernel_rfl) rfl rfl rfl ?_
    refine h_val (v_loadR rfl rfl row_52 sz_52 EQ_ (by decide)) rfl ?_
    refine h_evN (e_callR (bs := []) (lmSmall_ev 2#64) ok_68 (by kernel_rfl) (by kernel_rfl) rfl VAL_) APP_ rfl ?_
    refine h_evN (e_callR (bs := []) (lmBelC_ev 5#8) ok_98 (by kernel_rfl) (by kernel_rfl) rfl VAL_) APP_ rfl ?_
    refine h_evN (e_callR (bs := []) (lmPow_ev (lmSmall 2#64) (lmBelC 5#8) HYP_ HYP_) ok_97 (by kernel_rfl) (by kernel_rfl) rfl VAL_) APP_ rfl ?_
    refine h_evN (e_callR (bs := []) (lmMul_ev (lmPow a (lmBelB 2#8)) (lmPow (lmSmall 2#64) (lmBelC 5#8)) HYP_ HYP_) ok_65 (by kernel_rfl) (by kernel_rfl) rfl VAL_) APP_ rfl ?_
    refine h_nil ?_
    refine s_storeR rfl rfl rfl rfl sz_52 EQ_ EQ_ SET_ ?_
    refine s_nil ?_
    refine S_ ?_
    refine ⟨(lmMul (lmPow a (lmBelB 2#8)) (lmPow (lmSmall 2#64) (lmBelC 5#8))), by kernel_rfl, ?_⟩
    rw [if_pos (hb)]
  · -- the test is False
    refine S_ ?_
    refine ⟨(lmPow a (lmBelB 2#8)), by kernel_rfl, ?_⟩
    rw [if_neg (by first | (rw [hb]; decide) | simp [hb])]
  have hJ4 : (if (!(decide (lmBytes (lmMul (lmPow a (lmBelB 2#8)) (lmPow a (lmBelB 2#8))) = lmBytes a))) = true then lmMul (lmPow a (lmBelB 2#8)) (lmPow (lmSmall 2#64) (lmBelC 5#8)) else lmPow a (lmBelB 2#8)).length = 5 := by split <;> simp [*]
  generalize (if (!(decide (lmBytes (lmMul (lmPow a (lmBelB 2#8)) (lmPow a (lmBelB 2#8))) = lmBytes a))) = true then lmMul (lmPow a (lmBelB 2#8)) (lmPow (lmSmall 2#64) (lmBelC 5#8)) else lmPow a (lmBelB 2#8)) = J4 at *
  have hQ9 : (lmMul J4 J4).length = 5 := LQ_
  refine S_ ?_
  refine c_draw 6 mixed (by kernel_rfl) rfl rfl rfl ?_
  refine h_val (v_loadR rfl rfl row_52 sz_52 EQ_ (by decide)) rfl ?_
  refine h_val (v_loadR rfl rfl row_52 sz_52 EQ_ (by decide)) rfl ?_
  refine h_val (v_loadR rfl rfl row_52 sz_52 EQ_ (by decide)) rfl ?_
  refine h_evN (e_callR (bs := []) (lmMul_ev J4 J4 HYP_ HYP_) ok_65 (by kernel_rfl) (by kernel_rfl) rfl VAL_) APP_ rfl ?_
  refine h_val (v_loadR rfl rfl row_52 sz_52 EQ_ (by decide)) rfl ?_
  refine h_evN (e_callR (bs := []) (lmSame_ev (lmMul J4 J4) a HYP_ HYP_) ok_72 (by kernel_rfl) (by kernel_rfl) rfl VAL_) APP_ rfl ?_
  refine h_nil ?_
  refine s_storeR rfl rfl rfl rfl sz_52 EQ_ EQ_ SET_ ?_
  refine s_val (v_assignC rfl) rfl ?_
  refine s_nil ?_
  refine S_ ?_
  rw [hP_lmRoot0.out, hP_lmRoot1.out]
  exact k_2 (r_row rfl rfl row_52 sz_52 EQ_ (by decide)) (by first | exact r_tmpC rfl | exact r_tmpA rfl) (by first | kernel_rfl | rfl)
@[simp] theorem lmRoot0_len (a : List (BitVec 64)) (ha : a.length = 5) : (lmRoot0 a).length = 5 := by
  unfold lmRoot0
  first | (simp (maxDischargeDepth := 9) [*]; done) | (simp (maxDischargeDepth := 9) [*]; omega) | (split <;> (simp (maxDischargeDepth := 9) [*]; done))
attribute [irreducible] lmRoot0
attribute [irreducible] lmRoot1
end Go.Proofs.Ytcgncafhonlmlaa
namespace Go.Proofs.Ytcgncafhonlmlaa
open Go.RowKit
def F (u : Fp) : List (BitVec 8) := toB u.val
def Z (b : List (BitVec 8)) : Fp := zf (leS b 32)
@[simp] theorem F_len (u : Fp) : (F u).length = 32 := toB_len _
theorem Z_F (u : Fp) : Z (F u) = u := by
  unfold Z F
  rw [leS_toB _ _ (Nat.le_refl _), Nat.mod_eq_of_lt (Nat.lt_trans u.isLt (by decide)), zf_self]
theorem F_inj {u v : Fp} : F u = F v ↔ u = v := ⟨fun h => by rw [← Z_F u, h, Z_F], fun h => by rw [h]⟩
theorem F_nth0 (u : Fp) : nth (F u) 0 = BitVec.ofNat 8 u.val := by
  unfold F
  rw [toB_nth _ _ (by decide), Nat.pow_zero, Nat.div_one]
theorem bytesF {a : List (BitVec 64)} (h : Fine a) : lmBytes a = F (LF a) := bytes_spec h
theorem odd_bit (x : BitVec 8) : ((x &&& 1#8) == 1#8) = decide (x.toNat % 2 = 1) := by
  have e : (x &&& 1#8).toNat = x.toNat % 2 := by
    rw [BitVec.toNat_and]
    exact Nat.and_two_pow_sub_one_eq_mod x.toNat 1
  by_cases h : x.toNat % 2 = 1
  · rw [decide_eq_true h, beq_iff_eq]
    apply BitVec.eq_of_toNat_eq
    rw [e, h]; rfl
  · rw [decide_eq_false h, beq_eq_false_iff_ne]
    intro hx
    apply h
    rw [← e, hx]; rfl
theorem exp_bit (e : List (BitVec 8)) (i : Nat) (hi : i < 256) : ((((nth e (i / 8)) >>> (i % 8)) &&& 1#8) == 1#8) = decide (leS e 32 / 2 ^ i % 2 = 1) := by
  rw [odd_bit]
  have h1 := leS_digit e 32 (i / 8) (by omega)
  rw [BitVec.toNat_ushiftRight, Nat.shiftRight_eq_div_pow, ← h1]
  have h2 : (2 : Nat) ^ i = 256 ^ (i / 8) * 2 ^ (i % 8) := by
    rw [show (256 : Nat) = 2 ^ 8 from rfl, ← Nat.pow_mul, ← Nat.pow_add, Nat.div_add_mod]
  rw [h2, ← Nat.div_div_eq_div_mul]
  generalize leS e 32 / 256 ^ (i / 8) = x
  congr 1
  rcases (by omega : i % 8 = 0 ∨ i % 8 = 1 ∨ i % 8 = 2 ∨ i % 8 = 3 ∨ i % 8 = 4 ∨ i % 8 = 5 ∨ i % 8 = 6 ∨ i % 8 = 7) with h | h | h | h | h | h | h | h <;> rw [h] <;> simp only [Nat.reducePow] <;> apply propext <;> omega
theorem sq_powF (x : Fp) : x ^ 2 = x * x := by grobner
theorem pow_oneF (x : Fp) : x ^ 1 = x := by grobner
theorem mul_oneF (x : Fp) : x * 1 = x := by grobner
theorem pow_fine {a : List (BitVec 64)} (ha : Fine a) (e : List (BitVec 8)) : Fine (lmPow a e) ∧ LF (lmPow a e) = LF a ^ leS e 32 := by
  have run : ∀ j, j ≤ 256 → Fine (lmPow_L3 a e j) ∧ LF (lmPow_L3 a e j) = LF a ^ (leS e 32 / 2 ^ (256 - j)) := by
    intro j
    induction j with
    | zero =>
      intro _
      have hz : leS e 32 / 2 ^ (256 - 0) = 0 := Nat.div_eq_of_lt (leS_lt e 32)
      rw [hz, pow_zeroF]
      exact small_fine (x := 1#64) (by decide)
    | succ j ih =>
      intro hj
      obtain ⟨h1, h2⟩ := ih (by omega)
      obtain ⟨s1, s2⟩ := mul_fine h1 h1
      have hb := exp_bit e (255 - j) (by omega)
      have hq : leS e 32 / 2 ^ (256 - (j + 1)) = 2 * (leS e 32 / 2 ^ (256 - j)) + leS e 32 / 2 ^ (255 - j) % 2 := by
        rw [show 256 - (j + 1) = 255 - j by omega, show 256 - j = (255 - j) + 1 by omega, Nat.pow_succ, ← Nat.div_div_eq_div_mul]
        omega
      rw [lmPow_L3, lmPow_L3_S, hb, hq, pow_addF, Nat.mul_comm 2, pow_mulF, ← h2]
      have hsq : LF (lmPow_L3 a e j) ^ 2 = LF (lmMul (lmPow_L3 a e j) (lmPow_L3 a e j)) := by
        rw [s2, sq_powF]
      rw [hsq]
      by_cases hc : leS e 32 / 2 ^ (255 - j) % 2 = 1
      · rw [decide_eq_true hc, if_pos rfl, hc]
        obtain ⟨t1, t2⟩ := mul_fine s1 ha
        exact ⟨t1, by rw [t2, pow_oneF]⟩
      · rw [decide_eq_false hc, if_neg (by decide), show leS e 32 / 2 ^ (255 - j) % 2 = 0 by omega, pow_zeroF]
        exact ⟨s1, by rw [mul_oneF]⟩
  have := run 256 (Nat.le_refl _)
  rw [Nat.sub_self, Nat.pow_zero, Nat.div_one] at this
  unfold lmPow
  exact this
theorem belA : leS (lmBelA 21#8) 32 = eInv := by decide +kernel
theorem belB : leS (lmBelB 2#8) 32 = eRoot := by decide +kernel
theorem belC : leS (lmBelC 5#8) 32 = eI := by decide +kernel
theorem inv_fine {a : List (BitVec 64)} (ha : Fine a) : Fine (lmInv a) ∧ LF (lmInv a) = invF (LF a) := by
  unfold lmInv invF
  have := pow_fine ha (lmBelA 21#8)
  rwa [belA] at this
theorem root_fine {a : List (BitVec 64)} (ha : Fine a) : (Fine (lmRoot0 a) ∧ LF (lmRoot0 a) = rootF (LF a)) ∧ lmRoot1 a = decide (rootF (LF a) * rootF (LF a) = LF a) := by
  obtain ⟨p1, p2⟩ := pow_fine ha (lmBelB 2#8)
  rw [belB] at p2
  obtain ⟨q1, q2⟩ := mul_fine p1 p1
  obtain ⟨t1, t2⟩ := small_fine (x := 2#64) (by decide)
  obtain ⟨i1, i2⟩ := pow_fine t1 (lmBelC 5#8)
  rw [belC, t2, show (2#64 : BitVec 64).toNat = 2 from rfl, iF_pow] at i2
  obtain ⟨r1, r2⟩ := mul_fine p1 i1
  have hc : (!(decide (lmBytes (lmMul (lmPow a (lmBelB 2#8)) (lmPow a (lmBelB 2#8))) = lmBytes a))) = !(decide (LF a ^ eRoot * LF a ^ eRoot = LF a)) := by
    rw [bytesF q1, bytesF ha, q2, p2]
    congr 1
    exact decide_eq_decide.2 F_inj
  have h0 : Fine (lmRoot0 a) ∧ LF (lmRoot0 a) = rootF (LF a) := by
    unfold lmRoot0 rootF
    rw [hc]
    by_cases h : LF a ^ eRoot * LF a ^ eRoot = LF a
    · rw [decide_eq_true h, if_neg (by decide), if_pos h]
      exact ⟨p1, p2⟩
    · rw [decide_eq_false h, if_pos (by decide), if_neg h]
      exact ⟨r1, by rw [r2, p2, i2]⟩
  refine ⟨h0, ?_⟩
  obtain ⟨u1, u2⟩ := mul_fine h0.1 h0.1
  have e1 : lmRoot1 a = decide (lmBytes (lmMul (lmRoot0 a) (lmRoot0 a)) = lmBytes a) := by unfold lmRoot1 lmRoot0; rfl
  rw [e1, bytesF u1, bytesF ha, u2, h0.2]
  exact decide_eq_decide.2 F_inj
def evenF (u : Fp) : Fp := if u.val % 2 = 1 then 0 - u else u
def fMod (a : List (BitVec 8)) : List (BitVec 8) := F (Z a)
def fAdd (a b : List (BitVec 8)) : List (BitVec 8) := F (Z a + Z b)
def fSub (a b : List (BitVec 8)) : List (BitVec 8) := F (Z a - Z b)
def fMul (a b : List (BitVec 8)) : List (BitVec 8) := F (Z a * Z b)
def fPow (a e : List (BitVec 8)) : List (BitVec 8) := F (Z a ^ leS e 32)
def fInv (a : List (BitVec 8)) : List (BitVec 8) := F (invF (Z a))
def fRootIs (a : List (BitVec 8)) : Bool := decide (rootF (Z a) * rootF (Z a) = Z a)
def fRoot (a : List (BitVec 8)) : List (BitVec 8) := F (if rootF (Z a) * rootF (Z a) = Z a then evenF (rootF (Z a)) else 0)
@[simp] theorem fMod_len (a : List (BitVec 8)) : (fMod a).length = 32 := F_len _
@[simp] theorem fAdd_len (a b : List (BitVec 8)) : (fAdd a b).length = 32 := F_len _
@[simp] theorem fSub_len (a b : List (BitVec 8)) : (fSub a b).length = 32 := F_len _
@[simp] theorem fMul_len (a b : List (BitVec 8)) : (fMul a b).length = 32 := F_len _
@[simp] theorem fPow_len (a b : List (BitVec 8)) : (fPow a b).length = 32 := F_len _
@[simp] theorem fInv_len (a : List (BitVec 8)) : (fInv a).length = 32 := F_len _
@[simp] theorem fRoot_len (a : List (BitVec 8)) : (fRoot a).length = 32 := F_len _
attribute [irreducible] F Z fMod fAdd fSub fMul fPow fInv fRoot fRootIs
end Go.Proofs.Ytcgncafhonlmlaa
namespace Go.Proofs.Ytcgncafhonlmlaa
open Go.RowKit
theorem scOf_val (b : List (BitVec 8)) : wV (scOf b) = leS b 32 := by
  have run := words_run b (scOf_L3 b) rfl (fun j => by rw [scOf_L3, scOf_L3_S]) 32 (Nat.le_refl _)
  have v : ∀ t, t < 4 → (nth (scOf_L3 b 32) t).toNat = wvb b t 8 := fun t ht => by
    have := run.2 t ht
    rwa [show min 8 (32 - 8 * t) = 8 by omega] at this
  unfold scOf wV
  rw [v 0 (by decide), v 1 (by decide), v 2 (by decide), v 3 (by decide), leS_wvb]
theorem scBytes_val (a : List (BitVec 64)) : scBytes a = toB (wV a) := by
  unfold scBytes
  exact bytes_run a (scBytes_L3 a) rfl fun j => by rw [scBytes_L3, scBytes_L3_S]
theorem order_list : scOrder = [6346243789798364141#64, 1503914060200516822#64, 0#64, 1152921504606846976#64] := by unfold scOrder; rfl
theorem order_val : wV scOrder = L25519 := by rw [order_list]; decide +kernel
theorem order_len : scOrder.length = 4 := by rw [order_list]; rfl
theorem less_run (a b : List (BitVec 64)) (j : Nat) : scLess_L3 a b j = (rfsub_L4 a b j).1 := by
  induction j with
  | zero => rfl
  | succ j ih => rw [scLess_L3, scLess_L3_S, rfsub_L4, rfsub_L4_S, ih]
theorem less_val {a b : List (BitVec 64)} (ha : a.length = 4) (hb : b.length = 4) : (scLess_L3 a b 4 == 1#64) = decide (wV a < wV b) := by
  obtain ⟨e, hc⟩ := rfsub_val ha hb
  have h1 : scLess_L3 a b 4 = rfsub1 a b := by rw [less_run]; unfold rfsub1; rfl
  have l1 := wV_lt (rfsub0 a b)
  have l2 := wV_lt a
  rw [h1]
  by_cases h : wV a < wV b
  · rw [decide_eq_true h, beq_iff_eq]
    apply BitVec.eq_of_toNat_eq
    show _ = 1
    omega
  · rw [decide_eq_false h, beq_eq_false_iff_ne]
    intro h2
    have : (rfsub1 a b).toNat = 1 := by rw [h2]; rfl
    omega
theorem sub_run {y : List (BitVec 64)} (hy : y.length = 4) : (scSf_L10 y 4).2 = rfsub0 y scOrder := by
  obtain ⟨y0, y1, y2, y3, rfl⟩ := four hy
  unfold rfsub0
  rfl
theorem dbl_word (x c : BitVec 64) (hc : c.toNat < 2) : ((x <<< 1) ||| c).toNat = (2 * x.toNat) % 18446744073709551616 + c.toNat := by
  rw [BitVec.or_comm, or_low 1 (by omega)]
  omega
theorem shr63 (x : BitVec 64) : (x >>> 63).toNat = x.toNat / 9223372036854775808 := by
  rw [BitVec.toNat_ushiftRight, Nat.shiftRight_eq_div_pow]
theorem dbl_val {a : List (BitVec 64)} (ha : a.length = 4) (bit : BitVec 64) (hb : bit.toNat < 2) (hl : wV a < L25519) : (scD a bit).length = 4 ∧ wV (scD a bit) = 2 * wV a + bit.toNat := by
  obtain ⟨a0, a1, a2, a3, rfl⟩ := four ha
  have e : scD [a0, a1, a2, a3] bit = [(a0 <<< 1) ||| bit, (a1 <<< 1) ||| (a0 >>> 63), (a2 <<< 1) ||| (a1 >>> 63), (a3 <<< 1) ||| (a2 >>> 63)] := by unfold scD; rfl
  rw [e]
  refine ⟨rfl, ?_⟩
  have i0 := a0.isLt
  have i1 := a1.isLt
  have i2 := a2.isLt
  have i3 := a3.isLt
  have s0 := dbl_word a0 bit hb
  have s1 := dbl_word a1 (a0 >>> 63) (by rw [shr63]; omega)
  have s2 := dbl_word a2 (a1 >>> 63) (by rw [shr63]; omega)
  have s3 := dbl_word a3 (a2 >>> 63) (by rw [shr63]; omega)
  rw [shr63] at s1 s2 s3
  change a0.toNat + a1.toNat * 18446744073709551616 + a2.toNat * 340282366920938463463374607431768211456 + a3.toNat * 6277101735386680763835789423207666416102355444464034512896 < 7237005577332262213973186563042994240857116359379907606001950938285454250989 at hl
  show ((a0 <<< 1) ||| bit).toNat + ((a1 <<< 1) ||| (a0 >>> 63)).toNat * 18446744073709551616 + ((a2 <<< 1) ||| (a1 >>> 63)).toNat * 340282366920938463463374607431768211456 + ((a3 <<< 1) ||| (a2 >>> 63)).toNat * 6277101735386680763835789423207666416102355444464034512896 = 2 * (a0.toNat + a1.toNat * 18446744073709551616 + a2.toNat * 340282366920938463463374607431768211456 + a3.toNat * 6277101735386680763835789423207666416102355444464034512896) + bit.toNat
  rw [s0, s1, s2, s3]
  omega
theorem shift_val {a : List (BitVec 64)} (ha : a.length = 4) (bit : BitVec 64) (hb : bit.toNat < 2) (hl : wV a < L25519) : (scShift a bit).length = 4 ∧ wV (scShift a bit) = (2 * wV a + bit.toNat) % L25519 := by
  obtain ⟨dl, dv⟩ := dbl_val ha bit hb hl
  refine ⟨scShift_len a bit ha, ?_⟩
  unfold scShift
  rw [less_val dl order_len, order_val, dv]
  by_cases h : 2 * wV a + bit.toNat < L25519
  · rw [if_pos (decide_eq_true h), Nat.mod_eq_of_lt h]
    unfold scSh
    exact dv
  · rw [if_neg (by rw [decide_eq_false h]; decide)]
    have e : scSf a bit = rfsub0 (scD a bit) scOrder := by
      unfold scSf
      rw [scShf_L2, show (scSh_L2 a bit 4).2 = scD a bit by unfold scD; rfl, sub_run dl]
    rw [e]
    obtain ⟨e2, hc⟩ := rfsub_val (a := scD a bit) (b := scOrder) dl order_len
    rw [order_val, dv] at e2
    have l1 := wV_lt (rfsub0 (scD a bit) scOrder)
    change ¬ _ < 7237005577332262213973186563042994240857116359379907606001950938285454250989 at h
    change _ < 7237005577332262213973186563042994240857116359379907606001950938285454250989 at hl
    change _ + 7237005577332262213973186563042994240857116359379907606001950938285454250989 = _ at e2
    have hc0 : (rfsub1 (scD a bit) scOrder).toNat = 0 := by omega
    rw [hc0] at e2
    have hm : (2 * wV a + bit.toNat) % L25519 = 2 * wV a + bit.toNat - L25519 := by
      rw [Nat.mod_eq_sub_mod (by show 7237005577332262213973186563042994240857116359379907606001950938285454250989 ≤ _; omega), Nat.mod_eq_of_lt]
      show _ - 7237005577332262213973186563042994240857116359379907606001950938285454250989 < 7237005577332262213973186563042994240857116359379907606001950938285454250989
      omega
    rw [hm]
    show _ = _ - 7237005577332262213973186563042994240857116359379907606001950938285454250989
    omega
theorem bit_at (e : List (BitVec 8)) (n i : Nat) (hi : i < 8 * n) : ((((nth e (i / 8)) >>> (i % 8)) &&& 1#8).setWidth 64).toNat = leS e n / 2 ^ i % 2 := by
  have e1 : (((nth e (i / 8)) >>> (i % 8)) &&& 1#8).toNat = ((nth e (i / 8)) >>> (i % 8)).toNat % 2 := by
    rw [BitVec.toNat_and]
    exact Nat.and_two_pow_sub_one_eq_mod _ 1
  rw [BitVec.toNat_setWidth, e1]
  have h1 := leS_digit e n (i / 8) (by omega)
  rw [BitVec.toNat_ushiftRight, Nat.shiftRight_eq_div_pow, ← h1]
  have h2 : (2 : Nat) ^ i = 256 ^ (i / 8) * 2 ^ (i % 8) := by
    rw [show (256 : Nat) = 2 ^ 8 from rfl, ← Nat.pow_mul, ← Nat.pow_add, Nat.div_add_mod]
  rw [h2, ← Nat.div_div_eq_div_mul]
  generalize leS e n / 256 ^ (i / 8) = x
  rcases (by omega : i % 8 = 0 ∨ i % 8 = 1 ∨ i % 8 = 2 ∨ i % 8 = 3 ∨ i % 8 = 4 ∨ i % 8 = 5 ∨ i % 8 = 6 ∨ i % 8 = 7) with h | h | h | h | h | h | h | h <;> rw [h] <;> simp only [Nat.reducePow] <;> omega
theorem L_pos : 0 < L25519 := by unfold L25519; decide
theorem step_mod (x b : Nat) : (2 * (x % L25519) + b) % L25519 = (2 * x + b) % L25519 := by
  unfold L25519
  omega
theorem red_run (b : List (BitVec 8)) : ∀ j, j ≤ 8 * b.length → (scRed_L3 b j).length = 4 ∧ wV (scRed_L3 b j) = leS b b.length / 2 ^ (8 * b.length - j) % L25519 := by
  intro j
  induction j with
  | zero =>
    intro _
    rw [scRed_L3]
    refine ⟨rfl, ?_⟩
    have h := leS_lt b b.length
    rw [Nat.sub_zero, show (2 : Nat) ^ (8 * b.length) = 256 ^ b.length by rw [Nat.pow_mul], Nat.div_eq_of_lt h]
    rfl
  | succ j ih =>
    intro hj
    obtain ⟨h1, h2⟩ := ih (by omega)
    rw [scRed_L3, scRed_L3_S]
    have hbit := bit_at b b.length (8 * b.length - 1 - j) (by omega)
    obtain ⟨g1, g2⟩ := shift_val h1 ((((nth b ((8 * b.length - 1 - j) / 8)) >>> ((8 * b.length - 1 - j) % 8)) &&& 1#8).setWidth 64) (by rw [hbit]; exact Nat.mod_lt _ (by decide)) (by rw [h2]; exact Nat.mod_lt _ L_pos)
    refine ⟨g1, ?_⟩
    rw [g2, hbit, h2, step_mod]
    congr 1
    rw [show 8 * b.length - j = (8 * b.length - 1 - j) + 1 by omega, show 8 * b.length - (j + 1) = 8 * b.length - 1 - j by omega, Nat.pow_succ, ← Nat.div_div_eq_div_mul]
    omega
theorem red_val (b : List (BitVec 8)) : wV (scRed b) = leS b b.length % L25519 := by
  obtain ⟨_, h⟩ := red_run b (8 * b.length) (Nat.le_refl _)
  unfold scRed
  rw [h, Nat.sub_self, Nat.pow_zero, Nat.div_one]
theorem prod_word (x y o c : BitVec 64) : ((mul640 x y + addC o (mul641 x y) 0#64) + addC (o + mul641 x y + 0#64) c 0#64).toNat * 18446744073709551616 + ((o + mul641 x y + 0#64) + c + 0#64).toNat = x.toNat * y.toNat + o.toNat + c.toNat := by
  have h := times_word x y o c
  rw [BitVec.add_comm o (mul641 x y), show addC o (mul641 x y) 0#64 = addC (mul641 x y) o 0#64 by unfold addC; rw [Nat.add_comm o.toNat]]
  exact h
theorem prod_inner {a b T : List (BitVec 64)} (i : Nat) (hi : i < 4) (hT : T.length = 9) : ∀ k, k ≤ 4 →
    (scProd_L7 a b T i k).2.length = 9 ∧ v64 (scProd_L7 a b T i k).2 9 + (scProd_L7 a b T i k).1.toNat * 18446744073709551616 ^ (i + k) = v64 T 9 + (nth a i).toNat * v64 b k * 18446744073709551616 ^ i ∧ ∀ t, i + 4 ≤ t → nth (scProd_L7 a b T i k).2 t = nth T t := by
  intro k
  induction k with
  | zero => intro _; exact ⟨hT, by show v64 T 9 + 0 * _ = v64 T 9 + _ * 0 * _; rw [Nat.zero_mul, Nat.mul_zero, Nat.zero_mul], fun t _ => rfl⟩
  | succ k ih =>
    intro hk
    obtain ⟨h1, h2, h3⟩ := ih (by omega)
    rw [scProd_L7, scProd_L7_S]
    generalize scProd_L7 a b T i k = Y at *
    obtain ⟨c, t⟩ := Y
    dsimp only at h1 h2 h3 ⊢
    rw [put_again, nth_put _ _ _ _ (by omega), if_pos rfl]
    have hw := prod_word (nth a i) (nth b k) (nth t (i + k)) c
    generalize nth t (i + k) + mul641 (nth a i) (nth b k) + 0#64 + c + 0#64 = v at *
    generalize mul640 (nth a i) (nth b k) + addC (nth t (i + k)) (mul641 (nth a i) (nth b k)) 0#64 + addC (nth t (i + k) + mul641 (nth a i) (nth b k) + 0#64) c 0#64 = c' at *
    have hp := v64_put t (i + k) v (by omega) 9
    rw [if_pos (by omega), if_pos (by omega)] at hp
    refine ⟨by rw [put_length, h1], ?_, fun s hs => ?_⟩
    · have := ring1 _ _ _ _ _ _ _ _ _ _ hp hw h2
      have e : (nth a i).toNat * v64 b (k + 1) * 18446744073709551616 ^ i = (nth a i).toNat * v64 b k * 18446744073709551616 ^ i + (nth a i).toNat * (nth b k).toNat * 18446744073709551616 ^ (i + k) := by
        rw [show v64 b (k + 1) = v64 b k + (nth b k).toNat * 18446744073709551616 ^ k from rfl, Nat.pow_add]
        generalize 18446744073709551616 ^ i = p
        generalize 18446744073709551616 ^ k = q
        grind
      rw [← Nat.add_assoc i k 1, Nat.pow_succ, this, e, Nat.add_assoc]
    · rw [nth_put _ _ _ _ (by omega), if_neg (by omega)]; exact h3 s hs
theorem prod_outer {a b : List (BitVec 64)} : ∀ i, i ≤ 4 → (scProd_L3 a b i).length = 9 ∧ v64 (scProd_L3 a b i) 9 = v64 a i * v64 b 4 ∧ ∀ t, i + 4 ≤ t → nth (scProd_L3 a b i) t = 0#64 := by
  intro i
  induction i with
  | zero =>
    intro _
    refine ⟨rfl, ?_, fun t _ => ?_⟩
    · show v64 (zer64 9) 9 = 0 * _
      rw [Nat.zero_mul]; decide
    · show nth (zer64 9) t = 0#64
      unfold nth zer64
      rw [List.getD_eq_getElem?_getD, List.getElem?_replicate]
      split <;> rfl
  | succ i ih =>
    intro hi
    obtain ⟨h1, h2, h3⟩ := ih (by omega)
    obtain ⟨g1, g2, g3⟩ := prod_inner (a := a) (b := b) (T := scProd_L3 a b i) i (by omega) h1 4 (Nat.le_refl _)
    rw [scProd_L3, scProd_L3_S]
    generalize scProd_L7 a b (scProd_L3 a b i) i 4 = Y at *
    obtain ⟨c, t⟩ := Y
    dsimp only at g1 g2 g3 ⊢
    have hp := v64_put t (i + 4) c (by omega) 9
    rw [if_pos (by omega), if_pos (by omega), g3 (i + 4) (by omega), h3 (i + 4) (by omega), show (0#64 : BitVec 64).toNat = 0 from rfl, Nat.zero_mul, Nat.add_zero, g2, h2] at hp
    refine ⟨by rw [put_length, g1], ?_, fun s hs => ?_⟩
    · rw [hp, show v64 a (i + 1) = v64 a i + (nth a i).toNat * 18446744073709551616 ^ i from rfl, Nat.add_mul]
      congr 1
      generalize 18446744073709551616 ^ i = p
      grind
    · rw [nth_put _ _ _ _ (by omega), if_neg (by omega), g3 s (by omega), h3 s (by omega)]
def cAt (c : List (BitVec 64)) (j : Nat) : BitVec 64 := if j < 4 then nth c j else 0#64
def cSum (c : List (BitVec 64)) : Nat → Nat
  | 0 => 0
  | n + 1 => cSum c n + (cAt c n).toNat * 18446744073709551616 ^ n
theorem cSum_val (c : List (BitVec 64)) : cSum c 9 = wV c := by
  simp only [cSum, cAt, wV, Nat.pow_zero, Nat.reducePow, show (0#64 : BitVec 64).toNat = 0 from rfl, Nat.reduceLT, if_true, if_false]
  omega
theorem prod_add {c Y : List (BitVec 64)} (hY : Y.length = 9) : ∀ j, j ≤ 9 → (scProd_L19 c Y j).2.length = 9 ∧ v64 (scProd_L19 c Y j).2 9 + (scProd_L19 c Y j).1.toNat * 18446744073709551616 ^ j = v64 Y 9 + cSum c j ∧ ∀ t, j ≤ t → nth (scProd_L19 c Y j).2 t = nth Y t := by
  intro j
  induction j with
  | zero => intro _; exact ⟨hY, by show v64 Y 9 + 0 * _ = v64 Y 9 + 0; rw [Nat.zero_mul], fun t _ => rfl⟩
  | succ j ih =>
    intro hj
    obtain ⟨h1, h2, h3⟩ := ih (by omega)
    have hc := scProd_c c Y j
    rw [scProd_L19, scProd_L19_S]
    generalize scProd_L19 c Y j = X at *
    obtain ⟨k, t⟩ := X
    dsimp only at h1 h2 h3 hc ⊢
    rw [show (if j < 4 then nth c j else 0#64) = cAt c j from rfl]
    have hv : (nth t j + cAt c j + k).toNat + (addC (nth t j) (cAt c j) k).toNat * 18446744073709551616 = (nth t j).toNat + (cAt c j).toNat + k.toNat := by
      rw [addC_nat3 hc, add3]
      omega
    generalize nth t j + cAt c j + k = v at *
    generalize addC (nth t j) (cAt c j) k = k' at *
    have hp := v64_put t j v (by omega) 9
    rw [if_pos (by omega), if_pos (by omega)] at hp
    refine ⟨by rw [put_length, h1], ?_, fun s hs => ?_⟩
    · rw [cSum, Nat.pow_succ]
      generalize 18446744073709551616 ^ j = Q at *
      generalize 18446744073709551616 = M at *
      generalize v64 (put t j v) 9 = V at *
      generalize v64 t 9 = W at *
      generalize v64 Y 9 = S at *
      clear h1 h3
      have e1 : k'.toNat * (Q * M) = (k'.toNat * M) * Q := by rw [Nat.mul_comm Q M, Nat.mul_assoc]
      have e2 : (k'.toNat * M) * Q + v.toNat * Q = (nth t j).toNat * Q + (cAt c j).toNat * Q + k.toNat * Q := by rw [← Nat.add_mul, ← Nat.add_mul, ← Nat.add_mul, ← hv, Nat.add_comm]
      rw [e1]
      omega
    · rw [nth_put _ _ _ _ (by omega), if_neg (by omega)]; exact h3 s (by omega)
theorem v64_lt (a : List (BitVec 64)) (n : Nat) : v64 a n < 18446744073709551616 ^ n := by
  induction n with
  | zero => exact Nat.one_pos
  | succ n ih =>
    rw [v64, Nat.pow_succ]
    have h := (nth a n).isLt
    have : (nth a n).toNat * 18446744073709551616 ^ n ≤ 18446744073709551615 * 18446744073709551616 ^ n := Nat.mul_le_mul_right _ (by omega)
    omega
theorem v64_digit (a : List (BitVec 64)) (n i : Nat) (h : i < n) : v64 a n / 18446744073709551616 ^ i % 18446744073709551616 = (nth a i).toNat := by
  induction n with
  | zero => omega
  | succ n ih =>
    rw [v64]
    have hp : 0 < 18446744073709551616 ^ i := Nat.pow_pos (by decide)
    by_cases e : i = n
    · subst e
      rw [Nat.add_mul_div_right _ _ hp, Nat.div_eq_of_lt (v64_lt a i), Nat.zero_add, Nat.mod_eq_of_lt (nth a i).isLt]
    · obtain ⟨k, hk⟩ : ∃ k, n = i + (k + 1) := ⟨n - i - 1, by omega⟩
      rw [← ih (by omega), hk, Nat.pow_add, Nat.pow_succ, show (nth a (i + (k + 1))).toNat * (18446744073709551616 ^ i * (18446744073709551616 ^ k * 18446744073709551616)) = ((nth a (i + (k + 1))).toNat * 18446744073709551616 ^ k * 18446744073709551616) * 18446744073709551616 ^ i from by grobner, Nat.add_mul_div_right _ _ hp, Nat.add_mul_mod_self_right]
theorem byte_of (a : List (BitVec 64)) (n i : Nat) (hi : i < 8 * n) : (((nth a (i / 8)) >>> (8 * (i % 8))).setWidth 8).toNat = v64 a n / 256 ^ i % 256 := by
  rw [BitVec.toNat_setWidth, BitVec.toNat_ushiftRight, Nat.shiftRight_eq_div_pow, ← v64_digit a n (i / 8) (by omega)]
  have h2 : (256 : Nat) ^ i = 18446744073709551616 ^ (i / 8) * 2 ^ (8 * (i % 8)) := by
    rw [show (18446744073709551616 : Nat) = 256 ^ 8 from rfl, ← Nat.pow_mul, show (2 : Nat) ^ (8 * (i % 8)) = 256 ^ (i % 8) by rw [Nat.pow_mul], ← Nat.pow_add, Nat.div_add_mod]
  rw [h2, ← Nat.div_div_eq_div_mul]
  generalize v64 a n / 18446744073709551616 ^ (i / 8) = x
  rcases (by omega : i % 8 = 0 ∨ i % 8 = 1 ∨ i % 8 = 2 ∨ i % 8 = 3 ∨ i % 8 = 4 ∨ i % 8 = 5 ∨ i % 8 = 6 ∨ i % 8 = 7) with h | h | h | h | h | h | h | h <;> rw [h] <;> simp only [Nat.reducePow, Nat.reduceMul] <;> omega
theorem leS_append (l : List (BitVec 8)) (x : BitVec 8) (n : Nat) (h : n ≤ l.length) : leS (l ++ [x]) n = leS l n := by
  induction n with
  | zero => rfl
  | succ n ih =>
    rw [leS, leS, ih (by omega)]
    unfold nth
    rw [List.getD_eq_getElem?_getD, List.getD_eq_getElem?_getD, List.getElem?_append_left (by omega)]
theorem nth_last (l : List (BitVec 8)) (x : BitVec 8) : nth (l ++ [x]) l.length = x := by
  unfold nth
  rw [List.getD_eq_getElem?_getD, List.getElem?_append_right (Nat.le_refl _), Nat.sub_self]
  rfl
theorem text_run {Y : List (BitVec 64)} (hY : Y.length = 9) : ∀ j, j ≤ 72 → leS (scProd_L28 Y j) j = v64 Y 9 % 256 ^ j := by
  intro j
  induction j with
  | zero => intro _; rw [leS, Nat.pow_zero, Nat.mod_one]
  | succ j ih =>
    intro hj
    have hl := scProd_L28_len Y hY j
    have hn : nth (scProd_L28 Y j ++ [((nth Y (j / 8)) >>> (8 * (j % 8))).setWidth 8]) j = ((nth Y (j / 8)) >>> (8 * (j % 8))).setWidth 8 := by
      have := nth_last (scProd_L28 Y j) (((nth Y (j / 8)) >>> (8 * (j % 8))).setWidth 8)
      rwa [hl] at this
    have e := @Nat.mod_mul (256 ^ j) 256 (v64 Y 9)
    rw [scProd_L28, scProd_L28_S, leS, leS_append _ _ _ (by omega), hn, ih (by omega), byte_of Y 9 j (by omega), Nat.pow_succ, e, Nat.mul_comm (256 ^ j)]
theorem prod_val (a b c : List (BitVec 64)) : (scProd a b c).length = 72 ∧ leS (scProd a b c) 72 = wV a * wV b + wV c := by
  obtain ⟨h1, h2, _⟩ := prod_outer (a := a) (b := b) 4 (Nat.le_refl _)
  obtain ⟨g1, g2, _⟩ := prod_add (c := c) h1 9 (Nat.le_refl _)
  rw [h2, cSum_val, v64_four, v64_four] at g2
  have la := wV_lt a
  have lb := wV_lt b
  have lc := wV_lt c
  have hab : wV a * wV b ≤ 115792089237316195423570985008687907853269984665640564039457584007913129639935 * 115792089237316195423570985008687907853269984665640564039457584007913129639935 := Nat.mul_le_mul (by omega) (by omega)
  have ht := text_run g1 72 (Nat.le_refl _)
  have hv := v64_lt (scProd_L19 c (scProd_L3 a b 4) 9).2 9
  unfold scProd
  refine ⟨scProd_L28_len _ g1 72, ?_⟩
  rw [ht, Nat.mod_eq_of_lt (by rw [show (256 : Nat) ^ 72 = 18446744073709551616 ^ 9 from rfl]; exact hv)]
  generalize v64 (scProd_L19 c (scProd_L3 a b 4) 9).2 9 = V at *
  generalize (scProd_L19 c (scProd_L3 a b 4) 9).1.toNat = k at *
  generalize wV a * wV b = q at *
  simp only [Nat.reducePow, Nat.reduceMul] at *
  omega
def sMod (b : List (BitVec 8)) : List (BitVec 8) := toB (leS b b.length % L25519)
def sMA (a b c : List (BitVec 8)) : List (BitVec 8) := toB ((leS a 32 * leS b 32 + leS c 32) % L25519)
def sBelow (n : List (BitVec 8)) : Bool := decide (leS n 32 < L25519)
@[simp] theorem sMod_len (b : List (BitVec 8)) : (sMod b).length = 32 := toB_len _
@[simp] theorem sMA_len (a b c : List (BitVec 8)) : (sMA a b c).length = 32 := toB_len _
theorem sMod_same (b : List (BitVec 8)) : scModT0 b = sMod b := by
  unfold scModT0 sMod
  rw [scBytes_val, red_val]
theorem sMA_same (a b c : List (BitVec 8)) : scMulAdd a b c = sMA a b c := by
  obtain ⟨h1, h2⟩ := prod_val (scOf a) (scOf b) (scOf c)
  unfold scMulAdd sMA
  rw [scBytes_val, red_val, h1, h2, scOf_val, scOf_val, scOf_val]
theorem sBelow_same {n : List (BitVec 8)} (hn : n.length = 32) : ((scLess_L3 (scOf n) scOrder 4) == 1#64) = sBelow n := by
  unfold sBelow
  rw [less_val (scOf_len n hn) order_len, order_val, scOf_val]
attribute [irreducible] sMA sMod sBelow
end Go.Proofs.Ytcgncafhonlmlaa
namespace Go.Proofs.Ytcgncafhonlmlaa
open Go.RowKit
def cvBend  : List (BitVec 64) := lmOf [163#8, 120#8, 89#8, 19#8, 202#8, 77#8, 235#8, 117#8, 171#8, 216#8, 65#8, 65#8, 77#8, 10#8, 112#8, 0#8, 152#8, 232#8, 121#8, 119#8, 121#8, 64#8, 199#8, 140#8, 115#8, 254#8, 111#8, 43#8, 238#8, 108#8, 3#8, 82#8]
set_option maxRecDepth 100000 in
set_option maxHeartbeats 2000000 in
theorem cvBend_ev   : Ev Try.prog (.call 71 [] []) (.val (.agg (.a64 (cvBend))) []) := by
  have hP : Hid (cvBend = lmOf [163#8, 120#8, 89#8, 19#8, 202#8, 77#8, 235#8, 117#8, 171#8, 216#8, 65#8, 65#8, 77#8, 10#8, 112#8, 0#8, 152#8, 232#8, 121#8, 119#8, 121#8, 64#8, 199#8, 140#8, 115#8, 254#8, 111#8, 43#8, 238#8, 108#8, 3#8, 82#8]) := ⟨rfl⟩
  refine c_call Try.func71 rfl Try.ntmps71 rfl LEN_ ?_
  refine S_ ?_
  refine c_region ?_
  refine s_memN (m_alloc al_52 LEN_) APP_ rfl ?_
  refine s_nil ?_
  have hQ1 : (lmOf [163#8, 120#8, 89#8, 19#8, 202#8, 77#8, 235#8, 117#8, 171#8, 216#8, 65#8, 65#8, 77#8, 10#8, 112#8, 0#8, 152#8, 232#8, 121#8, 119#8, 121#8, 64#8, 199#8, 140#8, 115#8, 254#8, 111#8, 43#8, 238#8, 108#8, 3#8, 82#8]).length = 5 := LQ_
  refine S_ ?_
  refine c_region ?_
  refine s_val (v_bld8 (l := [163#8, 120#8, 89#8, 19#8, 202#8, 77#8, 235#8, 117#8, 171#8, 216#8, 65#8, 65#8, 77#8, 10#8, 112#8, 0#8, 152#8, 232#8, 121#8, 119#8, 121#8, 64#8, 199#8, 140#8, 115#8, 254#8, 111#8, 43#8, 238#8, 108#8, 3#8, 82#8]) zc_22 Try.underlying22 sz_5 rfl rfl (by decide)) rfl ?_
  refine s_evN (e_callR (bs := []) (lmOf_ev [163#8, 120#8, 89#8, 19#8, 202#8, 77#8, 235#8, 117#8, 171#8, 216#8, 65#8, 65#8, 77#8, 10#8, 112#8, 0#8, 152#8, 232#8, 121#8, 119#8, 121#8, 64#8, 199#8, 140#8, 115#8, 254#8, 111#8, 43#8, 238#8, 108#8, 3#8, 82#8] HYP_) ok_63 (by kernel_rfl) (by kernel_rfl) rfl VAL_) APP_ rfl ?_
  refine s_storeR rfl rfl rfl rfl sz_52 EQ_ EQ_ SET_ ?_
  refine s_nil ?_
  refine S_ ?_
  rw [hP.out]
  exact k_1 (r_row rfl rfl row_52 sz_52 EQ_ (by decide)) (by first | kernel_rfl | rfl)
@[simp] theorem cvBend_len  : (cvBend).length = 5 := by
  unfold cvBend
  first | (simp [*]; done) | (simp [*]; omega)
attribute [irreducible] cvBend
def cvNone  : List (BitVec 64) := (lmSmall 0#64) ++ (lmSmall 1#64) ++ (lmSmall 1#64) ++ (lmSmall 0#64)
set_option maxRecDepth 100000 in
set_option maxHeartbeats 2000000 in
theorem cvNone_ev   : Ev Try.prog (.call 87 [] []) (.val (.agg (.a64 (cvNone))) []) := by
  have hP : Hid (cvNone = (lmSmall 0#64) ++ (lmSmall 1#64) ++ (lmSmall 1#64) ++ (lmSmall 0#64)) := ⟨rfl⟩
  refine c_call Try.func87 rfl Try.ntmps87 rfl LEN_ ?_
  refine S_ ?_
  refine c_region ?_
  refine s_memN (m_alloc al_54 LEN_) APP_ rfl ?_
  refine s_nil ?_
  have hQ1 : (lmSmall 0#64).length = 5 := LQ_
  have hQ2 : (lmSmall 1#64).length = 5 := LQ_
  refine S_ ?_
  refine c_region ?_
  refine s_evN (e_callR (bs := []) (lmSmall_ev 0#64) ok_68 (by kernel_rfl) (by kernel_rfl) rfl VAL_) APP_ rfl ?_
  refine s_evN (e_callR (bs := []) (lmSmall_ev 1#64) ok_68 (by kernel_rfl) (by kernel_rfl) rfl VAL_) APP_ rfl ?_
  refine s_evN (e_callR (bs := []) (lmSmall_ev 1#64) ok_68 (by kernel_rfl) (by kernel_rfl) rfl VAL_) APP_ rfl ?_
  refine s_evN (e_callR (bs := []) (lmSmall_ev 0#64) ok_68 (by kernel_rfl) (by kernel_rfl) rfl VAL_) APP_ rfl ?_
  refine s_val (v_bld4 rfl rfl rfl rfl (bs_54 EQL_ EQL_ EQL_ EQL_)) rfl ?_
  refine s_storeR rfl rfl rfl rfl sz_54 EQ_ EQ_ SET_ ?_
  refine s_nil ?_
  refine S_ ?_
  rw [hP.out]
  exact k_1 (r_row rfl rfl row_54 sz_54 EQ_ (by decide)) (by first | kernel_rfl | rfl)
@[simp] theorem cvNone_len  : (cvNone).length = 20 := by
  unfold cvNone
  first | (simp (maxDischargeDepth := 9) [*]; done) | (simp (maxDischargeDepth := 9) [*]; omega) | (split <;> (simp (maxDischargeDepth := 9) [*]; done))
attribute [irreducible] cvNone
end Go.Proofs.Ytcgncafhonlmlaa
namespace Go.Proofs.Ytcgncafhonlmlaa
open Go.RowKit
def unY (b : List (BitVec 8)) : List (BitVec 64) := lmOf (put b 31 ((nth b 31) &&& 127#8))
def unYY (b : List (BitVec 8)) : List (BitVec 64) := lmMul (unY b) (unY b)
def unXX (b : List (BitVec 8)) : List (BitVec 64) := lmMul (lmSub (unYY b) (lmSmall 1#64)) (lmInv (lmAdd (lmMul cvBend (unYY b)) (lmSmall 1#64)))
def unR (b : List (BitVec 8)) : List (BitVec 64) := lmRoot0 (unXX b)
def unIs (b : List (BitVec 8)) : Bool := lmRoot1 (unXX b)
def unC (b : List (BitVec 8)) : Bool := decide (lmBytes (unY b) = put b 31 ((nth b 31) &&& 127#8))
def unZ (b : List (BitVec 8)) : Bool := decide (lmBytes (unR b) = lmBytes (lmSmall 0#64))
def unO (b : List (BitVec 8)) : Bool := ((nth b 31) >>> 7) == 1#8
@[simp] theorem unY_len (b : List (BitVec 8)) (hb : b.length = 32) : (unY b).length = 5 := by unfold unY; simp (maxDischargeDepth := 9) [hb]
@[simp] theorem unYY_len (b : List (BitVec 8)) (hb : b.length = 32) : (unYY b).length = 5 := by unfold unYY; simp (maxDischargeDepth := 9) [hb]
@[simp] theorem unXX_len (b : List (BitVec 8)) (hb : b.length = 32) : (unXX b).length = 5 := by unfold unXX; simp (maxDischargeDepth := 9) [hb]
@[simp] theorem unR_len (b : List (BitVec 8)) (hb : b.length = 32) : (unR b).length = 5 := by unfold unR; simp (maxDischargeDepth := 9) [hb]
theorem unY_ev (b : List (BitVec 8)) (hb : b.length = 32) : Ev Try.prog (.call 63 [.agg (.a8 (put b 31 ((nth b 31) &&& 127#8)))] []) (.val (.agg (.a64 (unY b))) []) := lmOf_ev _ (by simp (maxDischargeDepth := 9) [hb])
theorem unYY_ev (b : List (BitVec 8)) (hb : b.length = 32) : Ev Try.prog (.call 65 [.agg (.a64 (unY b)), .agg (.a64 (unY b))] []) (.val (.agg (.a64 (unYY b))) []) := lmMul_ev _ _ (by simp (maxDischargeDepth := 9) [hb]) (by simp (maxDischargeDepth := 9) [hb])
theorem unXX_ev (b : List (BitVec 8)) (hb : b.length = 32) : Ev Try.prog (.call 65 [.agg (.a64 (lmSub (unYY b) (lmSmall 1#64))), .agg (.a64 (lmInv (lmAdd (lmMul cvBend (unYY b)) (lmSmall 1#64))))] []) (.val (.agg (.a64 (unXX b))) []) := lmMul_ev _ _ (by simp (maxDischargeDepth := 9) [hb]) (by simp (maxDischargeDepth := 9) [hb])
theorem unRoot_ev (b : List (BitVec 8)) (r : Bool) (hr : unIs b = r) (hb : b.length = 32) : Ev Try.prog (.call 66 [.agg (.a64 (unXX b))] []) (.val (.tup [.agg (.a64 (unR b)), .c (.val (.bool r))]) []) := by
  rw [← hr]
  exact lmRoot_ev _ (by simp (maxDischargeDepth := 9) [hb])
theorem unSame_ev (b : List (BitVec 8)) (r : Bool) (hr : unZ b = r) (hb : b.length = 32) : Ev Try.prog (.call 72 [.agg (.a64 (unR b)), .agg (.a64 (lmSmall 0#64))] []) (.val (.c (.val (.bool r))) []) := by
  rw [← hr]
  exact lmSame_ev _ _ (by simp (maxDischargeDepth := 9) [hb]) (by simp)
theorem unC_eq {b : List (BitVec 8)} {r : Bool} (h : unC b = r) : (!decide (lmBytes (unY b) = put b 31 ((nth b 31) &&& 127#8))) = !r := by rw [← h]; rfl
theorem unO_eq {b : List (BitVec 8)} {r : Bool} (h : unO b = r) : (((nth b 31) >>> 7) == 1#8) = r := h
attribute [irreducible] unY unYY unXX unR unIs unC unZ unO
end Go.Proofs.Ytcgncafhonlmlaa
namespace Go.Proofs.Ytcgncafhonlmlaa
open Go.RowKit
def cvUnA0  : List (BitVec 64) := zer64 20
set_option maxRecDepth 100000 in
set_option maxHeartbeats 2000000 in
theorem cvUnA_ev (b : List (BitVec 8)) (hb : b.length = 32) (hC : unC b = false) : Ev Try.prog (.call 33 [.agg (.a8 (b))] []) (.val (.tup [.agg (.a64 (cvUnA0)), .c (.val (.bool (false)))]) []) := by
  have hP_cvUnA0 : Hid (cvUnA0 = zer64 20) := ⟨rfl⟩
  refine c_call Try.func33 rfl Try.ntmps33 rfl LEN_ ?_
  refine S_ ?_
  refine c_region ?_
  refine s_memN (m_box BX_ LEN_) APP_ rfl ?_
  refine s_memN (m_alloc al_54 LEN_) APP_ rfl ?_
  refine s_val (v_assignC rfl) rfl ?_
  refine s_nil ?_
  refine S_ ?_
  refine c_region ?_
  refine s_val (v_idxA1 (j := 31) rfl rfl Try.underlying22 sz_5 (by omega)) rfl ?_
  refine s_val (v_load8 rfl rfl row_5 LT_) rfl ?_
  refine s_val (v_shr8n (j := 7) rfl rfl) rfl ?_
  refine s_val (v_eql8 (b := 1#8) rfl rfl) rfl ?_
  refine s_val (v_assignC rfl) rfl ?_
  refine s_nil ?_
  refine S_ ?_
  refine c_region ?_
  refine s_val (v_idxA1 (j := 31) rfl rfl Try.underlying22 sz_5 (by omega)) rfl ?_
  refine s_val (v_load8 rfl rfl row_5 LT_) rfl ?_
  refine s_val (v_and8 (b := 127#8) rfl rfl) rfl ?_
  refine s_val (v_idxA1 (j := 31) rfl rfl Try.underlying22 sz_5 (by omega)) rfl ?_
  refine s_store8 rfl rfl rfl sz_5 LT_ SET_ ?_
  refine s_nil ?_
  have hQ1 : (unY b).length = 5 := LQ_
  refine S_ ?_
  refine c_region ?_
  refine s_val (v_loadR rfl rfl row_22 sz_22 EQ_ (by decide)) rfl ?_
  refine s_evN (e_callR (bs := []) (unY_ev b hb) ok_63 (by kernel_rfl) (by kernel_rfl) rfl VAL_) APP_ rfl ?_
  refine s_memN (m_alloc al_52 LEN_) APP_ rfl ?_
  refine s_storeR rfl rfl rfl rfl sz_52 EQ_ EQ_ SET_ ?_
  refine s_nil ?_
  have hQ2 : (lmBytes (unY b)).length = 32 := LQ_
  refine S_ ?_
  refine c_draw 4 mixed (by kernel_rfl) rfl rfl rfl ?_
  refine h_val (v_loadR rfl rfl row_52 sz_52 EQ_ (by decide)) rfl ?_
  refine h_evN (e_callR (bs := []) (lmBytes_ev (unY b) HYP_) ok_64 (by kernel_rfl) (by kernel_rfl) rfl VAL_) APP_ rfl ?_
  refine h_val (v_loadR rfl rfl row_22 sz_22 EQ_ (by decide)) rfl ?_
  refine h_val (v_neqR8 rfl rfl Try.underlying22 Try.underlying5 sz_5 EQ_ EQ_) rfl ?_
  refine h_nil ?_
  refine s_nil ?_
  refine Q_ ?_
  refine c_condT rfl (unC_eq hC) ?_
  refine S_ ?_
  refine c_region ?_
  refine s_val (v_bld0 bz_54) rfl ?_
  refine s_storeR rfl rfl rfl rfl sz_54 EQ_ EQ_ SET_ ?_
  refine s_val (v_assignC rfl) rfl ?_
  refine s_nil ?_
  refine S_ ?_
  rw [hP_cvUnA0.out]
  exact k_2 (r_row rfl rfl row_54 sz_54 EQ_ (by decide)) (by first | exact r_tmpC rfl | exact r_tmpA rfl) (by first | kernel_rfl | rfl)
@[simp] theorem cvUnA0_len  : (cvUnA0).length = 20 := by
  unfold cvUnA0
  first | (simp (maxDischargeDepth := 9) [*]; done) | (simp (maxDischargeDepth := 9) [*]; omega) | (split <;> (simp (maxDischargeDepth := 9) [*]; done))
attribute [irreducible] cvUnA0
end Go.Proofs.Ytcgncafhonlmlaa
namespace Go.Proofs.Ytcgncafhonlmlaa
open Go.RowKit
def cvUnB0  : List (BitVec 64) := zer64 20
set_option maxRecDepth 100000 in
set_option maxHeartbeats 2000000 in
theorem cvUnB_ev (b : List (BitVec 8)) (hb : b.length = 32) (hC : unC b = true) (hR : unIs b = false) : Ev Try.prog (.call 33 [.agg (.a8 (b))] []) (.val (.tup [.agg (.a64 (cvUnB0)), .c (.val (.bool (false)))]) []) := by
  have hP_cvUnB0 : Hid (cvUnB0 = zer64 20) := ⟨rfl⟩
  refine c_call Try.func33 rfl Try.ntmps33 rfl LEN_ ?_
  refine S_ ?_
  refine c_region ?_
  refine s_memN (m_box BX_ LEN_) APP_ rfl ?_
  refine s_memN (m_alloc al_54 LEN_) APP_ rfl ?_
  refine s_val (v_assignC rfl) rfl ?_
  refine s_nil ?_
  refine S_ ?_
  refine c_region ?_
  refine s_val (v_idxA1 (j := 31) rfl rfl Try.underlying22 sz_5 (by omega)) rfl ?_
  refine s_val (v_load8 rfl rfl row_5 LT_) rfl ?_
  refine s_val (v_shr8n (j := 7) rfl rfl) rfl ?_
  refine s_val (v_eql8 (b := 1#8) rfl rfl) rfl ?_
  refine s_val (v_assignC rfl) rfl ?_
  refine s_nil ?_
  refine S_ ?_
  refine c_region ?_
  refine s_val (v_idxA1 (j := 31) rfl rfl Try.underlying22 sz_5 (by omega)) rfl ?_
  refine s_val (v_load8 rfl rfl row_5 LT_) rfl ?_
  refine s_val (v_and8 (b := 127#8) rfl rfl) rfl ?_
  refine s_val (v_idxA1 (j := 31) rfl rfl Try.underlying22 sz_5 (by omega)) rfl ?_
  refine s_store8 rfl rfl rfl sz_5 LT_ SET_ ?_
  refine s_nil ?_
  have hQ1 : (unY b).length = 5 := LQ_
  refine S_ ?_
  refine c_region ?_
  refine s_val (v_loadR rfl rfl row_22 sz_22 EQ_ (by decide)) rfl ?_
  refine s_evN (e_callR (bs := []) (unY_ev b hb) ok_63 (by kernel_rfl) (by kernel_rfl) rfl VAL_) APP_ rfl ?_
  refine s_memN (m_alloc al_52 LEN_) APP_ rfl ?_
  refine s_storeR rfl rfl rfl rfl sz_52 EQ_ EQ_ SET_ ?_
  refine s_nil ?_
  have hQ2 : (lmBytes (unY b)).length = 32 := LQ_
  refine S_ ?_
  refine c_draw 4 mixed (by kernel_rfl) rfl rfl rfl ?_
  refine h_val (v_loadR rfl rfl row_52 sz_52 EQ_ (by decide)) rfl ?_
  refine h_evN (e_callR (bs := []) (lmBytes_ev (unY b) HYP_) ok_64 (by kernel_rfl) (by kernel_rfl) rfl VAL_) APP_ rfl ?_
  refine h_val (v_loadR rfl rfl row_22 sz_22 EQ_ (by decide)) rfl ?_
  refine h_val (v_neqR8 rfl rfl Try.underlying22 Try.underlying5 sz_5 EQ_ EQ_) rfl ?_
  refine h_nil ?_
  refine s_nil ?_
  refine Q_ ?_
  refine c_condF rfl (unC_eq hC) ?_
  have hQ3 : (unYY b).length = 5 := LQ_
  refine S_ ?_
  refine c_region ?_
  refine s_val (v_loadR rfl rfl row_52 sz_52 EQ_ (by decide)) rfl ?_
  refine s_val (v_loadR rfl rfl row_52 sz_52 EQ_ (by decide)) rfl ?_
  refine s_evN (e_callR (bs := []) (unYY_ev b hb) ok_65 (by kernel_rfl) (by kernel_rfl) rfl VAL_) APP_ rfl ?_
  refine s_memN (m_alloc al_52 LEN_) APP_ rfl ?_
  refine s_storeR rfl rfl rfl rfl sz_52 EQ_ EQ_ SET_ ?_
  refine s_nil ?_
  have hQ4 : (lmSmall 1#64).length = 5 := LQ_
  have hQ5 : (lmSub (unYY b) (lmSmall 1#64)).length = 5 := LQ_
  have hQ6 : (cvBend).length = 5 := LQ_
  have hQ7 : (lmMul cvBend (unYY b)).length = 5 := LQ_
  have hQ8 : (lmAdd (lmMul cvBend (unYY b)) (lmSmall 1#64)).length = 5 := LQ_
  have hQ9 : (lmInv (lmAdd (lmMul cvBend (unYY b)) (lmSmall 1#64))).length = 5 := LQ_
  have hQ10 : (unXX b).length = 5 := LQ_
  have hQ11 : (unR b).length = 5 := LQ_
  refine S_ ?_
  refine c_late 15 13 mixed (by kernel_rfl) (by kernel_rfl) rfl rfl rfl ?_
  refine h_val (v_loadR rfl rfl row_52 sz_52 EQ_ (by decide)) rfl ?_
  refine h_evN (e_callR (bs := []) (lmSmall_ev 1#64) ok_68 (by kernel_rfl) (by kernel_rfl) rfl VAL_) APP_ rfl ?_
  refine h_evN (e_callR (bs := []) (lmSub_ev (unYY b) (lmSmall 1#64) HYP_ HYP_) ok_67 (by kernel_rfl) (by kernel_rfl) rfl VAL_) APP_ rfl ?_
  refine h_evN (e_callR (bs := []) (cvBend_ev) ok_71 (by kernel_rfl) (by kernel_rfl) rfl VAL_) APP_ rfl ?_
  refine h_val (v_loadR rfl rfl row_52 sz_52 EQ_ (by decide)) rfl ?_
  refine h_evN (e_callR (bs := []) (lmMul_ev cvBend (unYY b) HYP_ HYP_) ok_65 (by kernel_rfl) (by kernel_rfl) rfl VAL_) APP_ rfl ?_
  refine h_evN (e_callR (bs := []) (lmSmall_ev 1#64) ok_68 (by kernel_rfl) (by kernel_rfl) rfl VAL_) APP_ rfl ?_
  refine h_evN (e_callR (bs := []) (lmAdd_ev (lmMul cvBend (unYY b)) (lmSmall 1#64) HYP_ HYP_) ok_70 (by kernel_rfl) (by kernel_rfl) rfl VAL_) APP_ rfl ?_
  refine h_evN (e_callR (bs := []) (lmInv_ev (lmAdd (lmMul cvBend (unYY b)) (lmSmall 1#64)) HYP_) ok_69 (by kernel_rfl) (by kernel_rfl) rfl VAL_) APP_ rfl ?_
  refine h_evN (e_callR (bs := []) (unXX_ev b hb) ok_65 (by kernel_rfl) (by kernel_rfl) rfl VAL_) APP_ rfl ?_
  refine h_evN (e_callR (bs := []) (unRoot_ev b false hR hb) ok_66 (by kernel_rfl) (by kernel_rfl) rfl VAL_) APP_ rfl ?_
  refine h_val (v_moveT rfl) rfl ?_
  refine h_val (v_extract rfl rfl) rfl ?_
  refine h_val (v_extract rfl rfl) rfl ?_
  refine h_memN (m_alloc al_52 LEN_) APP_ rfl ?_
  refine h_nil ?_
  refine s_storeR rfl rfl rfl rfl sz_52 EQ_ EQ_ SET_ ?_
  refine s_val (v_assignC rfl) rfl ?_
  refine s_nil ?_
  refine S_ ?_
  refine c_draw 10 mixed (by kernel_rfl) rfl rfl rfl ?_
  refine h_val (v_moveC rfl) rfl ?_
  refine h_val (v_unnotB rfl) rfl ?_
  refine h_val (v_moveC rfl) rfl ?_
  refine h_no GO_ ?_
  refine h_no GO_ ?_
  refine h_no GO_ ?_
  refine h_no GO_ ?_
  refine h_no GO_ ?_
  refine h_no GO_ ?_
  refine h_val (v_pickT rfl PK_ rfl) rfl ?_
  refine h_nil ?_
  refine s_nil ?_
  refine S_ ?_
  refine c_region ?_
  refine s_val (v_bld0 bz_54) rfl ?_
  refine s_storeR rfl rfl rfl rfl sz_54 EQ_ EQ_ SET_ ?_
  refine s_val (v_assignC rfl) rfl ?_
  refine s_nil ?_
  refine S_ ?_
  rw [hP_cvUnB0.out]
  exact k_2 (r_row rfl rfl row_54 sz_54 EQ_ (by decide)) (by first | exact r_tmpC rfl | exact r_tmpA rfl) (by first | kernel_rfl | rfl)
@[simp] theorem cvUnB0_len  : (cvUnB0).length = 20 := by
  unfold cvUnB0
  first | (simp (maxDischargeDepth := 9) [*]; done) | (simp (maxDischargeDepth := 9) [*]; omega) | (split <;> (simp (maxDischargeDepth := 9) [*]; done))
attribute [irreducible] cvUnB0
end Go.Proofs.Ytcgncafhonlmlaa
namespace Go.Proofs.Ytcgncafhonlmlaa
open Go.RowKit
def cvUnD0  : List (BitVec 64) := zer64 20
set_option maxRecDepth 100000 in
set_option maxHeartbeats 2000000 in
theorem cvUnD_ev (b : List (BitVec 8)) (hb : b.length = 32) (hC : unC b = true) (hR : unIs b = true) (hO : unO b = true) (hZ : unZ b = true) : Ev Try.prog (.call 33 [.agg (.a8 (b))] []) (.val (.tup [.agg (.a64 (cvUnD0)), .c (.val (.bool (false)))]) []) := by
  have hP_cvUnD0 : Hid (cvUnD0 = zer64 20) := ⟨rfl⟩
  refine c_call Try.func33 rfl Try.ntmps33 rfl LEN_ ?_
  refine S_ ?_
  refine c_region ?_
  refine s_memN (m_box BX_ LEN_) APP_ rfl ?_
  refine s_memN (m_alloc al_54 LEN_) APP_ rfl ?_
  refine s_val (v_assignC rfl) rfl ?_
  refine s_nil ?_
  have hE1 : ((((nth b 31) >>> 7) == 1#8)) = true := unO_eq hO
  refine S_ ?_
  refine c_region ?_
  refine s_val (v_idxA1 (j := 31) rfl rfl Try.underlying22 sz_5 (by omega)) rfl ?_
  refine s_val (v_load8 rfl rfl row_5 LT_) rfl ?_
  refine s_val (v_shr8n (j := 7) rfl rfl) rfl ?_
  refine s_val (v_bool (v_eql8 (b := 1#8) rfl rfl) hE1) rfl ?_
  refine s_val (v_assignC rfl) rfl ?_
  refine s_nil ?_
  refine S_ ?_
  refine c_region ?_
  refine s_val (v_idxA1 (j := 31) rfl rfl Try.underlying22 sz_5 (by omega)) rfl ?_
  refine s_val (v_load8 rfl rfl row_5 LT_) rfl ?_
  refine s_val (v_and8 (b := 127#8) rfl rfl) rfl ?_
  refine s_val (v_idxA1 (j := 31) rfl rfl Try.underlying22 sz_5 (by omega)) rfl ?_
  refine s_store8 rfl rfl rfl sz_5 LT_ SET_ ?_
  refine s_nil ?_
  have hQ2 : (unY b).length = 5 := LQ_
  refine S_ ?_
  refine c_region ?_
  refine s_val (v_loadR rfl rfl row_22 sz_22 EQ_ (by decide)) rfl ?_
  refine s_evN (e_callR (bs := []) (unY_ev b hb) ok_63 (by kernel_rfl) (by kernel_rfl) rfl VAL_) APP_ rfl ?_
  refine s_memN (m_alloc al_52 LEN_) APP_ rfl ?_
  refine s_storeR rfl rfl rfl rfl sz_52 EQ_ EQ_ SET_ ?_
  refine s_nil ?_
  have hQ3 : (lmBytes (unY b)).length = 32 := LQ_
  refine S_ ?_
  refine c_draw 4 mixed (by kernel_rfl) rfl rfl rfl ?_
  refine h_val (v_loadR rfl rfl row_52 sz_52 EQ_ (by decide)) rfl ?_
  refine h_evN (e_callR (bs := []) (lmBytes_ev (unY b) HYP_) ok_64 (by kernel_rfl) (by kernel_rfl) rfl VAL_) APP_ rfl ?_
  refine h_val (v_loadR rfl rfl row_22 sz_22 EQ_ (by decide)) rfl ?_
  refine h_val (v_neqR8 rfl rfl Try.underlying22 Try.underlying5 sz_5 EQ_ EQ_) rfl ?_
  refine h_nil ?_
  refine s_nil ?_
  refine Q_ ?_
  refine c_condF rfl (unC_eq hC) ?_
  have hQ4 : (unYY b).length = 5 := LQ_
  refine S_ ?_
  refine c_region ?_
  refine s_val (v_loadR rfl rfl row_52 sz_52 EQ_ (by decide)) rfl ?_
  refine s_val (v_loadR rfl rfl row_52 sz_52 EQ_ (by decide)) rfl ?_
  refine s_evN (e_callR (bs := []) (unYY_ev b hb) ok_65 (by kernel_rfl) (by kernel_rfl) rfl VAL_) APP_ rfl ?_
  refine s_memN (m_alloc al_52 LEN_) APP_ rfl ?_
  refine s_storeR rfl rfl rfl rfl sz_52 EQ_ EQ_ SET_ ?_
  refine s_nil ?_
  have hQ5 : (lmSmall 1#64).length = 5 := LQ_
  have hQ6 : (lmSub (unYY b) (lmSmall 1#64)).length = 5 := LQ_
  have hQ7 : (cvBend).length = 5 := LQ_
  have hQ8 : (lmMul cvBend (unYY b)).length = 5 := LQ_
  have hQ9 : (lmAdd (lmMul cvBend (unYY b)) (lmSmall 1#64)).length = 5 := LQ_
  have hQ10 : (lmInv (lmAdd (lmMul cvBend (unYY b)) (lmSmall 1#64))).length = 5 := LQ_
  have hQ11 : (unXX b).length = 5 := LQ_
  have hQ12 : (unR b).length = 5 := LQ_
  refine S_ ?_
  refine c_late 15 13 mixed (by kernel_rfl) (by kernel_rfl) rfl rfl rfl ?_
  refine h_val (v_loadR rfl rfl row_52 sz_52 EQ_ (by decide)) rfl ?_
  refine h_evN (e_callR (bs := []) (lmSmall_ev 1#64) ok_68 (by kernel_rfl) (by kernel_rfl) rfl VAL_) APP_ rfl ?_
  refine h_evN (e_callR (bs := []) (lmSub_ev (unYY b) (lmSmall 1#64) HYP_ HYP_) ok_67 (by kernel_rfl) (by kernel_rfl) rfl VAL_) APP_ rfl ?_
  refine h_evN (e_callR (bs := []) (cvBend_ev) ok_71 (by kernel_rfl) (by kernel_rfl) rfl VAL_) APP_ rfl ?_
  refine h_val (v_loadR rfl rfl row_52 sz_52 EQ_ (by decide)) rfl ?_
  refine h_evN (e_callR (bs := []) (lmMul_ev cvBend (unYY b) HYP_ HYP_) ok_65 (by kernel_rfl) (by kernel_rfl) rfl VAL_) APP_ rfl ?_
  refine h_evN (e_callR (bs := []) (lmSmall_ev 1#64) ok_68 (by kernel_rfl) (by kernel_rfl) rfl VAL_) APP_ rfl ?_
  refine h_evN (e_callR (bs := []) (lmAdd_ev (lmMul cvBend (unYY b)) (lmSmall 1#64) HYP_ HYP_) ok_70 (by kernel_rfl) (by kernel_rfl) rfl VAL_) APP_ rfl ?_
  refine h_evN (e_callR (bs := []) (lmInv_ev (lmAdd (lmMul cvBend (unYY b)) (lmSmall 1#64)) HYP_) ok_69 (by kernel_rfl) (by kernel_rfl) rfl VAL_) APP_ rfl ?_
  refine h_evN (e_callR (bs := []) (unXX_ev b hb) ok_65 (by kernel_rfl) (by kernel_rfl) rfl VAL_) APP_ rfl ?_
  refine h_evN (e_callR (bs := []) (unRoot_ev b true hR hb) ok_66 (by kernel_rfl) (by kernel_rfl) rfl VAL_) APP_ rfl ?_
  refine h_val (v_moveT rfl) rfl ?_
  refine h_val (v_extract rfl rfl) rfl ?_
  refine h_val (v_extract rfl rfl) rfl ?_
  refine h_memN (m_alloc al_52 LEN_) APP_ rfl ?_
  refine h_nil ?_
  refine s_storeR rfl rfl rfl rfl sz_52 EQ_ EQ_ SET_ ?_
  refine s_val (v_assignC rfl) rfl ?_
  refine s_nil ?_
  have hQ13 : (lmSmall 0#64).length = 5 := LQ_
  refine S_ ?_
  refine c_draw 10 mixed (by kernel_rfl) rfl rfl rfl ?_
  refine h_val (v_moveC rfl) rfl ?_
  refine h_val (v_unnotB rfl) rfl ?_
  refine h_val (v_moveC rfl) rfl ?_
  refine h_go GO_ ?_
  refine h_val (v_moveC rfl) rfl ?_
  refine h_go GO_ ?_
  refine h_val (v_moveC rfl) rfl ?_
  refine h_go GO_ ?_
  refine h_val (v_loadR rfl rfl row_52 sz_52 EQ_ (by decide)) rfl ?_
  refine h_go GO_ ?_
  refine h_evN (e_callR (bs := []) (lmSmall_ev 0#64) ok_68 (by kernel_rfl) (by kernel_rfl) rfl VAL_) APP_ rfl ?_
  refine h_go GO_ ?_
  refine h_evN (e_callR (bs := []) (unSame_ev b true hZ hb) ok_72 (by kernel_rfl) (by kernel_rfl) rfl VAL_) APP_ rfl ?_
  refine h_go GO_ ?_
  refine h_val (v_pickT rfl PK_ rfl) rfl ?_
  refine h_val (v_pickF rfl PK_ rfl) rfl ?_
  refine h_nil ?_
  refine s_nil ?_
  refine S_ ?_
  refine c_region ?_
  refine s_val (v_bld0 bz_54) rfl ?_
  refine s_storeR rfl rfl rfl rfl sz_54 EQ_ EQ_ SET_ ?_
  refine s_val (v_assignC rfl) rfl ?_
  refine s_nil ?_
  refine S_ ?_
  rw [hP_cvUnD0.out]
  exact k_2 (r_row rfl rfl row_54 sz_54 EQ_ (by decide)) (by first | exact r_tmpC rfl | exact r_tmpA rfl) (by first | kernel_rfl | rfl)
@[simp] theorem cvUnD0_len  : (cvUnD0).length = 20 := by
  unfold cvUnD0
  first | (simp (maxDischargeDepth := 9) [*]; done) | (simp (maxDischargeDepth := 9) [*]; omega) | (split <;> (simp (maxDischargeDepth := 9) [*]; done))
attribute [irreducible] cvUnD0
end Go.Proofs.Ytcgncafhonlmlaa
namespace Go.Proofs.Ytcgncafhonlmlaa
open Go.RowKit
def cvUnE0 (b : List (BitVec 8)) : List (BitVec 64) := (if (!((((nth (lmBytes (unR b)) 0) &&& 1#8) == 1#8) == false)) = true then lmSub (lmSmall 0#64) (unR b) else unR b) ++ (unY b) ++ (lmSmall 1#64) ++ (lmMul (if (!((((nth (lmBytes (unR b)) 0) &&& 1#8) == 1#8) == false)) = true then lmSub (lmSmall 0#64) (unR b) else unR b) (unY b))
set_option maxRecDepth 100000 in
set_option maxHeartbeats 2000000 in
theorem cvUnE_ev (b : List (BitVec 8)) (hb : b.length = 32) (hC : unC b = true) (hR : unIs b = true) (hO : unO b = false) : Ev Try.prog (.call 33 [.agg (.a8 (b))] []) (.val (.tup [.agg (.a64 (cvUnE0 b)), .c (.val (.bool (true)))]) []) := by
  have hP_cvUnE0 : Hid (cvUnE0 b = (if (!((((nth (lmBytes (unR b)) 0) &&& 1#8) == 1#8) == false)) = true then lmSub (lmSmall 0#64) (unR b) else unR b) ++ (unY b) ++ (lmSmall 1#64) ++ (lmMul (if (!((((nth (lmBytes (unR b)) 0) &&& 1#8) == 1#8) == false)) = true then lmSub (lmSmall 0#64) (unR b) else unR b) (unY b))) := ⟨rfl⟩
  refine c_call Try.func33 rfl Try.ntmps33 rfl LEN_ ?_
  refine S_ ?_
  refine c_region ?_
  refine s_memN (m_box BX_ LEN_) APP_ rfl ?_
  refine s_memN (m_alloc al_54 LEN_) APP_ rfl ?_
  refine s_val (v_assignC rfl) rfl ?_
  refine s_nil ?_
  have hE1 : ((((nth b 31) >>> 7) == 1#8)) = false := unO_eq hO
  refine S_ ?_
  refine c_region ?_
  refine s_val (v_idxA1 (j := 31) rfl rfl Try.underlying22 sz_5 (by omega)) rfl ?_
  refine s_val (v_load8 rfl rfl row_5 LT_) rfl ?_
  refine s_val (v_shr8n (j := 7) rfl rfl) rfl ?_
  refine s_val (v_bool (v_eql8 (b := 1#8) rfl rfl) hE1) rfl ?_
  refine s_val (v_assignC rfl) rfl ?_
  refine s_nil ?_
  refine S_ ?_
  refine c_region ?_
  refine s_val (v_idxA1 (j := 31) rfl rfl Try.underlying22 sz_5 (by omega)) rfl ?_
  refine s_val (v_load8 rfl rfl row_5 LT_) rfl ?_
  refine s_val (v_and8 (b := 127#8) rfl rfl) rfl ?_
  refine s_val (v_idxA1 (j := 31) rfl rfl Try.underlying22 sz_5 (by omega)) rfl ?_
  refine s_store8 rfl rfl rfl sz_5 LT_ SET_ ?_
  refine s_nil ?_
  have hQ2 : (unY b).length = 5 := LQ_
  refine S_ ?_
  refine c_region ?_
  refine s_val (v_loadR rfl rfl row_22 sz_22 EQ_ (by decide)) rfl ?_
  refine s_evN (e_callR (bs := []) (unY_ev b hb) ok_63 (by kernel_rfl) (by kernel_rfl) rfl VAL_) APP_ rfl ?_
  refine s_memN (m_alloc al_52 LEN_) APP_ rfl ?_
  refine s_storeR rfl rfl rfl rfl sz_52 EQ_ EQ_ SET_ ?_
  refine s_nil ?_
  have hQ3 : (lmBytes (unY b)).length = 32 := LQ_
  refine S_ ?_
  refine c_draw 4 mixed (by kernel_rfl) rfl rfl rfl ?_
  refine h_val (v_loadR rfl rfl row_52 sz_52 EQ_ (by decide)) rfl ?_
  refine h_evN (e_callR (bs := []) (lmBytes_ev (unY b) HYP_) ok_64 (by kernel_rfl) (by kernel_rfl) rfl VAL_) APP_ rfl ?_
  refine h_val (v_loadR rfl rfl row_22 sz_22 EQ_ (by decide)) rfl ?_
  refine h_val (v_neqR8 rfl rfl Try.underlying22 Try.underlying5 sz_5 EQ_ EQ_) rfl ?_
  refine h_nil ?_
  refine s_nil ?_
  refine Q_ ?_
  refine c_condF rfl (unC_eq hC) ?_
  have hQ4 : (unYY b).length = 5 := LQ_
  refine S_ ?_
  refine c_region ?_
  refine s_val (v_loadR rfl rfl row_52 sz_52 EQ_ (by decide)) rfl ?_
  refine s_val (v_loadR rfl rfl row_52 sz_52 EQ_ (by decide)) rfl ?_
  refine s_evN (e_callR (bs := []) (unYY_ev b hb) ok_65 (by kernel_rfl) (by kernel_rfl) rfl VAL_) APP_ rfl ?_
  refine s_memN (m_alloc al_52 LEN_) APP_ rfl ?_
  refine s_storeR rfl rfl rfl rfl sz_52 EQ_ EQ_ SET_ ?_
  refine s_nil ?_
  have hQ5 : (lmSmall 1#64).length = 5 := LQ_
  have hQ6 : (lmSub (unYY b) (lmSmall 1#64)).length = 5 := LQ_
  have hQ7 : (cvBend).length = 5 := LQ_
  have hQ8 : (lmMul cvBend (unYY b)).length = 5 := LQ_
  have hQ9 : (lmAdd (lmMul cvBend (unYY b)) (lmSmall 1#64)).length = 5 := LQ_
  have hQ10 : (lmInv (lmAdd (lmMul cvBend (unYY b)) (lmSmall 1#64))).length = 5 := LQ_
  have hQ11 : (unXX b).length = 5 := LQ_
  have hQ12 : (unR b).length = 5 := LQ_
  refine S_ ?_
  refine c_late 15 13 mixed (by kernel_rfl) (by kernel_rfl) rfl rfl rfl ?_
  refine h_val (v_loadR rfl rfl row_52 sz_52 EQ_ (by decide)) rfl ?_
  refine h_evN (e_callR (bs := []) (lmSmall_ev 1#64) ok_68 (by kernel_rfl) (by kernel_rfl) rfl VAL_) APP_ rfl ?_
  refine h_evN (e_callR (bs := []) (lmSub_ev (unYY b) (lmSmall 1#64) HYP_ HYP_) ok_67 (by kernel_rfl) (by kernel_rfl) rfl VAL_) APP_ rfl ?_
  refine h_evN (e_callR (bs := []) (cvBend_ev) ok_71 (by kernel_rfl) (by kernel_rfl) rfl VAL_) APP_ rfl ?_
  refine h_val (v_loadR rfl rfl row_52 sz_52 EQ_ (by decide)) rfl ?_
  refine h_evN (e_callR (bs := []) (lmMul_ev cvBend (unYY b) HYP_ HYP_) ok_65 (by kernel_rfl) (by kernel_rfl) rfl VAL_) APP_ rfl ?_
  refine h_evN (e_callR (bs := []) (lmSmall_ev 1#64) ok_68 (by kernel_rfl) (by kernel_rfl) rfl VAL_) APP_ rfl ?_
  refine h_evN (e_callR (bs := []) (lmAdd_ev (lmMul cvBend (unYY b)) (lmSmall 1#64) HYP_ HYP_) ok_70 (by kernel_rfl) (by kernel_rfl) rfl VAL_) APP_ rfl ?_
  refine h_evN (e_callR (bs := []) (lmInv_ev (lmAdd (lmMul cvBend (unYY b)) (lmSmall 1#64)) HYP_) ok_69 (by kernel_rfl) (by kernel_rfl) rfl VAL_) APP_ rfl ?_
  refine h_evN (e_callR (bs := []) (unXX_ev b hb) ok_65 (by kernel_rfl) (by kernel_rfl) rfl VAL_) APP_ rfl ?_
  refine h_evN (e_callR (bs := []) (unRoot_ev b true hR hb) ok_66 (by kernel_rfl) (by kernel_rfl) rfl VAL_) APP_ rfl ?_
  refine h_val (v_moveT rfl) rfl ?_
  refine h_val (v_extract rfl rfl) rfl ?_
  refine h_val (v_extract rfl rfl) rfl ?_
  refine h_memN (m_alloc al_52 LEN_) APP_ rfl ?_
  refine h_nil ?_
  refine s_storeR rfl rfl rfl rfl sz_52 EQ_ EQ_ SET_ ?_
  refine s_val (v_assignC rfl) rfl ?_
  refine s_nil ?_
  refine S_ ?_
  refine c_draw 10 mixed (by kernel_rfl) rfl rfl rfl ?_
  refine h_val (v_moveC rfl) rfl ?_
  refine h_val (v_unnotB rfl) rfl ?_
  refine h_val (v_moveC rfl) rfl ?_
  refine h_go GO_ ?_
  refine h_val (v_moveC rfl) rfl ?_
  refine h_go GO_ ?_
  refine h_val (v_moveC rfl) rfl ?_
  refine h_no GO_ ?_
  refine h_no GO_ ?_
  refine h_no GO_ ?_
  refine h_go GO_ ?_
  refine h_val (v_pickF rfl PK_ rfl) rfl ?_
  refine h_val (v_pickF rfl PK_ rfl) rfl ?_
  refine h_nil ?_
  refine s_nil ?_
  refine S_ ?_
  refine c_region ?_
  refine s_val (v_loadR rfl rfl row_52 sz_52 EQ_ (by decide)) rfl ?_
  refine s_evN (e_callR (bs := []) (lmOdd_ev (unR b) HYP_) ok_73 (by kernel_rfl) (by kernel_rfl) rfl VAL_) APP_ rfl ?_
  refine s_val (v_moveC rfl) rfl ?_
  refine s_val (v_neqB rfl rfl Try.underlying4) rfl ?_
  refine s_nil ?_
  refine Q_ ?_
  refine c_join [2, 5, 7] (fun (zz : List (BitVec 64)) => ⟨66, keepT [2, 5, 7] [.c (.ptr 0 0), .c (.ptr 1 0), .c (.ptr 2 0)], [.row true (.a64 (zer64 20)), .row true (.a64 (unY b)), .row true (.a64 (zz))]⟩) (if (!((((nth (lmBytes (unR b)) 0) &&& 1#8) == 1#8) == false)) = true then lmSub (lmSmall 0#64) (unR b) else unR b) rfl (fun hb => ?_) (fun hb => ?_) ?_
  · -- the test is True
    have hQ14 : (lmSmall 0#64).length = 5 := LQ_
    have hQ15 : (lmSub (lmSmall 0#64) (unR b)).length = 5 := LQ_
    refine S_ ?_
    refine c_draw 3 mixed (by kernel_rfl) rfl rfl rfl ?_
    refine h_evN (e_callR (bs := []) (lmSmall_ev 0#64) ok_68 (by kernel_rfl) (by kernel_rfl) rfl VAL_) APP_ rfl ?_
    refine h_val (v_loadR rfl rfl row_52 sz_52 EQ_ (by decide)) rfl ?_
    refine h_evN (e_callR (bs := []) (lmSub_ev (lmSmall 0#64) (unR b) HYP_ HYP_) ok_67 (by kernel_rfl) (by kernel_rfl) rfl VAL_) APP_ rfl ?_
    refine h_nil ?_
    refine s_storeR rfl rfl rfl rfl sz_52 EQ_ EQ_ SET_ ?_
    refine s_nil ?_
    refine S_ ?_
    refine ⟨(lmSub (lmSmall 0#64) (unR b)), by kernel_rfl, ?_⟩
    rw [if_pos (hb)]
  · -- the test is False
    refine S_ ?_
    refine ⟨(unR b), by kernel_rfl, ?_⟩
    rw [if_neg (by first | (rw [hb]; decide) | simp [hb])]
  have hJ13 : (if (!((((nth (lmBytes (unR b)) 0) &&& 1#8) == 1#8) == false)) = true then lmSub (lmSmall 0#64) (unR b) else unR b).length = 5 := by split <;> simp [*]
  generalize (if (!((((nth (lmBytes (unR b)) 0) &&& 1#8) == 1#8) == false)) = true then lmSub (lmSmall 0#64) (unR b) else unR b) = J13 at *
  have hQ16 : (lmSmall 1#64).length = 5 := LQ_
  have hQ17 : (lmMul J13 (unY b)).length = 5 := LQ_
  refine S_ ?_
  refine c_draw 7 mixed (by kernel_rfl) rfl rfl rfl ?_
  refine h_val (v_loadR rfl rfl row_52 sz_52 EQ_ (by decide)) rfl ?_
  refine h_val (v_loadR rfl rfl row_52 sz_52 EQ_ (by decide)) rfl ?_
  refine h_evN (e_callR (bs := []) (lmSmall_ev 1#64) ok_68 (by kernel_rfl) (by kernel_rfl) rfl VAL_) APP_ rfl ?_
  refine h_val (v_loadR rfl rfl row_52 sz_52 EQ_ (by decide)) rfl ?_
  refine h_val (v_loadR rfl rfl row_52 sz_52 EQ_ (by decide)) rfl ?_
  refine h_evN (e_callR (bs := []) (lmMul_ev J13 (unY b) HYP_ HYP_) ok_65 (by kernel_rfl) (by kernel_rfl) rfl VAL_) APP_ rfl ?_
  refine h_val (v_bld4 rfl rfl rfl rfl (bs_54 EQL_ EQL_ EQL_ EQL_)) rfl ?_
  refine h_nil ?_
  refine s_storeR rfl rfl rfl rfl sz_54 EQ_ EQ_ SET_ ?_
  refine s_val (v_assignC rfl) rfl ?_
  refine s_nil ?_
  refine S_ ?_
  rw [hP_cvUnE0.out]
  exact k_2 (r_row rfl rfl row_54 sz_54 EQ_ (by decide)) (by first | exact r_tmpC rfl | exact r_tmpA rfl) (by first | kernel_rfl | rfl)
@[simp] theorem cvUnE0_len (b : List (BitVec 8)) (hb : b.length = 32) : (cvUnE0 b).length = 20 := by
  unfold cvUnE0
  first | (simp (maxDischargeDepth := 9) [*]; done) | (simp (maxDischargeDepth := 9) [*]; omega) | (split <;> (simp (maxDischargeDepth := 9) [*]; done))
attribute [irreducible] cvUnE0
end Go.Proofs.Ytcgncafhonlmlaa
namespace Go.Proofs.Ytcgncafhonlmlaa
open Go.RowKit
def cvUnF0 (b : List (BitVec 8)) : List (BitVec 64) := (if (!((((nth (lmBytes (unR b)) 0) &&& 1#8) == 1#8) == true)) = true then lmSub (lmSmall 0#64) (unR b) else unR b) ++ (unY b) ++ (lmSmall 1#64) ++ (lmMul (if (!((((nth (lmBytes (unR b)) 0) &&& 1#8) == 1#8) == true)) = true then lmSub (lmSmall 0#64) (unR b) else unR b) (unY b))
set_option maxRecDepth 100000 in
set_option maxHeartbeats 2000000 in
theorem cvUnF_ev (b : List (BitVec 8)) (hb : b.length = 32) (hC : unC b = true) (hR : unIs b = true) (hO : unO b = true) (hZ : unZ b = false) : Ev Try.prog (.call 33 [.agg (.a8 (b))] []) (.val (.tup [.agg (.a64 (cvUnF0 b)), .c (.val (.bool (true)))]) []) := by
  have hP_cvUnF0 : Hid (cvUnF0 b = (if (!((((nth (lmBytes (unR b)) 0) &&& 1#8) == 1#8) == true)) = true then lmSub (lmSmall 0#64) (unR b) else unR b) ++ (unY b) ++ (lmSmall 1#64) ++ (lmMul (if (!((((nth (lmBytes (unR b)) 0) &&& 1#8) == 1#8) == true)) = true then lmSub (lmSmall 0#64) (unR b) else unR b) (unY b))) := ⟨rfl⟩
  refine c_call Try.func33 rfl Try.ntmps33 rfl LEN_ ?_
  refine S_ ?_
  refine c_region ?_
  refine s_memN (m_box BX_ LEN_) APP_ rfl ?_
  refine s_memN (m_alloc al_54 LEN_) APP_ rfl ?_
  refine s_val (v_assignC rfl) rfl ?_
  refine s_nil ?_
  have hE1 : ((((nth b 31) >>> 7) == 1#8)) = true := unO_eq hO
  refine S_ ?_
  refine c_region ?_
  refine s_val (v_idxA1 (j := 31) rfl rfl Try.underlying22 sz_5 (by omega)) rfl ?_
  refine s_val (v_load8 rfl rfl row_5 LT_) rfl ?_
  refine s_val (v_shr8n (j := 7) rfl rfl) rfl ?_
  refine s_val (v_bool (v_eql8 (b := 1#8) rfl rfl) hE1) rfl ?_
  refine s_val (v_assignC rfl) rfl ?_
  refine s_nil ?_
  refine S_ ?_
  refine c_region ?_
  refine s_val (v_idxA1 (j := 31) rfl rfl Try.underlying22 sz_5 (by omega)) rfl ?_
  refine s_val (v_load8 rfl rfl row_5 LT_) rfl ?_
  refine s_val (v_and8 (b := 127#8) rfl rfl) rfl ?_
  refine s_val (v_idxA1 (j := 31) rfl rfl Try.underlying22 sz_5 (by omega)) rfl ?_
  refine s_store8 rfl rfl rfl sz_5 LT_ SET_ ?_
  refine s_nil ?_
  have hQ2 : (unY b).length = 5 := LQ_
  refine S_ ?_
  refine c_region ?_
  refine s_val (v_loadR rfl rfl row_22 sz_22 EQ_ (by decide)) rfl ?_
  refine s_evN (e_callR (bs := []) (unY_ev b hb) ok_63 (by kernel_rfl) (by kernel_rfl) rfl VAL_) APP_ rfl ?_
  refine s_memN (m_alloc al_52 LEN_) APP_ rfl ?_
  refine s_storeR rfl rfl rfl rfl sz_52 EQ_ EQ_ SET_ ?_
  refine s_nil ?_
  have hQ3 : (lmBytes (unY b)).length = 32 := LQ_
  refine S_ ?_
  refine c_draw 4 mixed (by kernel_rfl) rfl rfl rfl ?_
  refine h_val (v_loadR rfl rfl row_52 sz_52 EQ_ (by decide)) rfl ?_
  refine h_evN (e_callR (bs := []) (lmBytes_ev (unY b) HYP_) ok_64 (by kernel_rfl) (by kernel_rfl) rfl VAL_) APP_ rfl ?_
  refine h_val (v_loadR rfl rfl row_22 sz_22 EQ_ (by decide)) rfl ?_
  refine h_val (v_neqR8 rfl rfl Try.underlying22 Try.underlying5 sz_5 EQ_ EQ_) rfl ?_
  refine h_nil ?_
  refine s_nil ?_
  refine Q_ ?_
  refine c_condF rfl (unC_eq hC) ?_
  have hQ4 : (unYY b).length = 5 := LQ_
  refine S_ ?_
  refine c_region ?_
  refine s_val (v_loadR rfl rfl row_52 sz_52 EQ_ (by decide)) rfl ?_
  refine s_val (v_loadR rfl rfl row_52 sz_52 EQ_ (by decide)) rfl ?_
  refine s_evN (e_callR (bs := []) (unYY_ev b hb) ok_65 (by kernel_rfl) (by kernel_rfl) rfl VAL_) APP_ rfl ?_
  refine s_memN (m_alloc al_52 LEN_) APP_ rfl ?_
  refine s_storeR rfl rfl rfl rfl sz_52 EQ_ EQ_ SET_ ?_
  refine s_nil ?_
  have hQ5 : (lmSmall 1#64).length = 5 := LQ_
  have hQ6 : (lmSub (unYY b) (lmSmall 1#64)).length = 5 := LQ_
  have hQ7 : (cvBend).length = 5 := LQ_
  have hQ8 : (lmMul cvBend (unYY b)).length = 5 := LQ_
  have hQ9 : (lmAdd (lmMul cvBend (unYY b)) (lmSmall 1#64)).length = 5 := LQ_
  have hQ10 : (lmInv (lmAdd (lmMul cvBend (unYY b)) (lmSmall 1#64))).length = 5 := LQ_
  have hQ11 : (unXX b).length = 5 := LQ_
  have hQ12 : (unR b).length = 5 := LQ_
  refine S_ ?_
  refine c_late 15 13 mixed (by kernel_rfl) (by kernel_rfl) rfl rfl rfl ?_
  refine h_val (v_loadR rfl rfl row_52 sz_52 EQ_ (by decide)) rfl ?_
  refine h_evN (e_callR (bs := []) (lmSmall_ev 1#64) ok_68 (by kernel_rfl) (by kernel_rfl) rfl VAL_) APP_ rfl ?_
  refine h_evN (e_callR (bs := []) (lmSub_ev (unYY b) (lmSmall 1#64) HYP_ HYP_) ok_67 (by kernel_rfl) (by kernel_rfl) rfl VAL_) APP_ rfl ?_
  refine h_evN (e_callR (bs := []) (cvBend_ev) ok_71 (by kernel_rfl) (by kernel_rfl) rfl VAL_) APP_ rfl ?_
  refine h_val (v_loadR rfl rfl row_52 sz_52 EQ_ (by decide)) rfl ?_
  refine h_evN (e_callR (bs := []) (lmMul_ev cvBend (unYY b) HYP_ HYP_) ok_65 (by kernel_rfl) (by kernel_rfl) rfl VAL_) APP_ rfl ?_
  refine h_evN (e_callR (bs := []) (lmSmall_ev 1#64) ok_68 (by kernel_rfl) (by kernel_rfl) rfl VAL_) APP_ rfl ?_
  refine h_evN (e_callR (bs := []) (lmAdd_ev (lmMul cvBend (unYY b)) (lmSmall 1#64) HYP_ HYP_) ok_70 (by kernel_rfl) (by kernel_rfl) rfl VAL_) APP_ rfl ?_
  refine h_evN (e_callR (bs := []) (lmInv_ev (lmAdd (lmMul cvBend (unYY b)) (lmSmall 1#64)) HYP_) ok_69 (by kernel_rfl) (by kernel_rfl) rfl VAL_) APP_ rfl ?_
  refine h_evN (e_callR (bs := []) (unXX_ev b hb) ok_65 (by kernel_rfl) (by kernel_rfl) rfl VAL_) APP_ rfl ?_
  refine h_evN (e_callR (bs := []) (unRoot_ev b true hR hb) ok_66 (by kernel_rfl) (by kernel_rfl) rfl VAL_) APP_ rfl ?_
  refine h_val (v_moveT rfl) rfl ?_
  refine h_val (v_extract rfl rfl) rfl ?_
  refine h_val (v_extract rfl rfl) rfl ?_
  refine h_memN (m_alloc al_52 LEN_) APP_ rfl ?_
  refine h_nil ?_
  refine s_storeR rfl rfl rfl rfl sz_52 EQ_ EQ_ SET_ ?_
  refine s_val (v_assignC rfl) rfl ?_
  refine s_nil ?_
  have hQ13 : (lmSmall 0#64).length = 5 := LQ_
  refine S_ ?_
  refine c_draw 10 mixed (by kernel_rfl) rfl rfl rfl ?_
  refine h_val (v_moveC rfl) rfl ?_
  refine h_val (v_unnotB rfl) rfl ?_
  refine h_val (v_moveC rfl) rfl ?_
  refine h_go GO_ ?_
  refine h_val (v_moveC rfl) rfl ?_
  refine h_go GO_ ?_
  refine h_val (v_moveC rfl) rfl ?_
  refine h_go GO_ ?_
  refine h_val (v_loadR rfl rfl row_52 sz_52 EQ_ (by decide)) rfl ?_
  refine h_go GO_ ?_
  refine h_evN (e_callR (bs := []) (lmSmall_ev 0#64) ok_68 (by kernel_rfl) (by kernel_rfl) rfl VAL_) APP_ rfl ?_
  refine h_go GO_ ?_
  refine h_evN (e_callR (bs := []) (unSame_ev b false hZ hb) ok_72 (by kernel_rfl) (by kernel_rfl) rfl VAL_) APP_ rfl ?_
  refine h_go GO_ ?_
  refine h_val (v_pickT rfl PK_ rfl) rfl ?_
  refine h_val (v_pickF rfl PK_ rfl) rfl ?_
  refine h_nil ?_
  refine s_nil ?_
  refine S_ ?_
  refine c_region ?_
  refine s_val (v_loadR rfl rfl row_52 sz_52 EQ_ (by decide)) rfl ?_
  refine s_evN (e_callR (bs := []) (lmOdd_ev (unR b) HYP_) ok_73 (by kernel_rfl) (by kernel_rfl) rfl VAL_) APP_ rfl ?_
  refine s_val (v_moveC rfl) rfl ?_
  refine s_val (v_neqB rfl rfl Try.underlying4) rfl ?_
  refine s_nil ?_
  refine Q_ ?_
  refine c_join [2, 5, 7] (fun (zz : List (BitVec 64)) => ⟨66, keepT [2, 5, 7] [.c (.ptr 0 0), .c (.ptr 1 0), .c (.ptr 2 0)], [.row true (.a64 (zer64 20)), .row true (.a64 (unY b)), .row true (.a64 (zz))]⟩) (if (!((((nth (lmBytes (unR b)) 0) &&& 1#8) == 1#8) == true)) = true then lmSub (lmSmall 0#64) (unR b) else unR b) rfl (fun hb => ?_) (fun hb => ?_) ?_
  · -- the test is True
    have hQ15 : (lmSmall 0#64).length = 5 := LQ_
    have hQ16 : (lmSub (lmSmall 0#64) (unR b)).length = 5 := LQ_
    refine S_ ?_
    refine c_draw 3 mixed (by kernel_rfl) rfl rfl rfl ?_
    refine h_evN (e_callR (bs := []) (lmSmall_ev 0#64) ok_68 (by kernel_rfl) (by kernel_rfl) rfl VAL_) APP_ rfl ?_
    refine h_val (v_loadR rfl rfl row_52 sz_52 EQ_ (by decide)) rfl ?_
    refine h_evN (e_callR (bs := []) (lmSub_ev (lmSmall 0#64) (unR b) HYP_ HYP_) ok_67 (by kernel_rfl) (by kernel_rfl) rfl VAL_) APP_ rfl ?_
    refine h_nil ?_
    refine s_storeR rfl rfl rfl rfl sz_52 EQ_ EQ_ SET_ ?_
    refine s_nil ?_
    refine S_ ?_
    refine ⟨(lmSub (lmSmall 0#64) (unR b)), by kernel_rfl, ?_⟩
    rw [if_pos (hb)]
  · -- the test is False
    refine S_ ?_
    refine ⟨(unR b), by kernel_rfl, ?_⟩
    rw [if_neg (by first | (rw [hb]; decide) | simp [hb])]
  have hJ14 : (if (!((((nth (lmBytes (unR b)) 0) &&& 1#8) == 1#8) == true)) = true then lmSub (lmSmall 0#64) (unR b) else unR b).length = 5 := by split <;> simp [*]
  generalize (if (!((((nth (lmBytes (unR b)) 0) &&& 1#8) == 1#8) == true)) = true then lmSub (lmSmall 0#64) (unR b) else unR b) = J14 at *
  have hQ17 : (lmSmall 1#64).length = 5 := LQ_
  have hQ18 : (lmMul J14 (unY b)).length = 5 := LQ_
  refine S_ ?_
  refine c_draw 7 mixed (by kernel_rfl) rfl rfl rfl ?_
  refine h_val (v_loadR rfl rfl row_52 sz_52 EQ_ (by decide)) rfl ?_
  refine h_val (v_loadR rfl rfl row_52 sz_52 EQ_ (by decide)) rfl ?_
  refine h_evN (e_callR (bs := []) (lmSmall_ev 1#64) ok_68 (by kernel_rfl) (by kernel_rfl) rfl VAL_) APP_ rfl ?_
  refine h_val (v_loadR rfl rfl row_52 sz_52 EQ_ (by decide)) rfl ?_
  refine h_val (v_loadR rfl rfl row_52 sz_52 EQ_ (by decide)) rfl ?_
  refine h_evN (e_callR (bs := []) (lmMul_ev J14 (unY b) HYP_ HYP_) ok_65 (by kernel_rfl) (by kernel_rfl) rfl VAL_) APP_ rfl ?_
  refine h_val (v_bld4 rfl rfl rfl rfl (bs_54 EQL_ EQL_ EQL_ EQL_)) rfl ?_
  refine h_nil ?_
  refine s_storeR rfl rfl rfl rfl sz_54 EQ_ EQ_ SET_ ?_
  refine s_val (v_assignC rfl) rfl ?_
  refine s_nil ?_
  refine S_ ?_
  rw [hP_cvUnF0.out]
  exact k_2 (r_row rfl rfl row_54 sz_54 EQ_ (by decide)) (by first | exact r_tmpC rfl | exact r_tmpA rfl) (by first | kernel_rfl | rfl)
@[simp] theorem cvUnF0_len (b : List (BitVec 8)) (hb : b.length = 32) : (cvUnF0 b).length = 20 := by
  unfold cvUnF0
  first | (simp (maxDischargeDepth := 9) [*]; done) | (simp (maxDischargeDepth := 9) [*]; omega) | (split <;> (simp (maxDischargeDepth := 9) [*]; done))
attribute [irreducible] cvUnF0
end Go.Proofs.Ytcgncafhonlmlaa
namespace Go.Proofs.Ytcgncafhonlmlaa
open Go.RowKit
def unOk (b : List (BitVec 8)) : Bool := unC b && (unIs b && !(unO b && unZ b))
def unP (b : List (BitVec 8)) : List (BitVec 64) := if unOk b = true then (if unO b = true then cvUnF0 b else cvUnE0 b) else zer64 20
@[simp] theorem unP_len (b : List (BitVec 8)) (hb : b.length = 32) : (unP b).length = 20 := by
  unfold unP
  split
  · split
    · exact cvUnF0_len b hb
    · exact cvUnE0_len b hb
  · exact List.length_replicate ..
theorem un_ev (b : List (BitVec 8)) (hb : b.length = 32) : Ev Try.prog (.call 33 [.agg (.a8 (b))] []) (.val (.tup [.agg (.a64 (unP b)), .c (.val (.bool (unOk b)))]) []) := by
  cases hC : unC b with
  | false =>
    have e : unOk b = false := by unfold unOk; rw [hC]; rfl
    have e2 : unP b = zer64 20 := by unfold unP; rw [e]; rfl
    have h := cvUnA_ev b hb hC
    unfold cvUnA0 at h
    rw [e, e2]; exact h
  | true =>
    cases hR : unIs b with
    | false =>
      have e : unOk b = false := by unfold unOk; rw [hC, hR]; rfl
      have e2 : unP b = zer64 20 := by unfold unP; rw [e]; rfl
      have h := cvUnB_ev b hb hC hR
      unfold cvUnB0 at h
      rw [e, e2]; exact h
    | true =>
      cases hO : unO b with
      | false =>
        have e : unOk b = true := by unfold unOk; rw [hC, hR, hO]; rfl
        have e2 : unP b = cvUnE0 b := by unfold unP; rw [e, hO]; rfl
        rw [e, e2]; exact cvUnE_ev b hb hC hR hO
      | true =>
        cases hZ : unZ b with
        | true =>
          have e : unOk b = false := by unfold unOk; rw [hC, hR, hO, hZ]; rfl
          have e2 : unP b = zer64 20 := by unfold unP; rw [e]; rfl
          have h := cvUnD_ev b hb hC hR hO hZ
          unfold cvUnD0 at h
          rw [e, e2]; exact h
        | false =>
          have e : unOk b = true := by unfold unOk; rw [hC, hR, hO, hZ]; rfl
          have e2 : unP b = cvUnF0 b := by unfold unP; rw [e, hO]; rfl
          rw [e, e2]; exact cvUnF_ev b hb hC hR hO hZ
end Go.Proofs.Ytcgncafhonlmlaa
namespace Go.Proofs.Ytcgncafhonlmlaa
open Go.RowKit
def cvPlus (p : List (BitVec 64)) (q : List (BitVec 64)) (k : List (BitVec 64)) : List (BitVec 64) := (lmMul (lmSub (lmMul (lmAdd (cut p 5 5) (cut p 0 5)) (lmAdd (cut q 5 5) (cut q 0 5))) (lmMul (lmSub (cut p 5 5) (cut p 0 5)) (lmSub (cut q 5 5) (cut q 0 5)))) (lmSub (lmMul (lmAdd (cut p 10 5) (cut p 10 5)) (cut q 10 5)) (lmMul (lmMul k (cut p 15 5)) (cut q 15 5)))) ++ (lmMul (lmAdd (lmMul (lmAdd (cut p 10 5) (cut p 10 5)) (cut q 10 5)) (lmMul (lmMul k (cut p 15 5)) (cut q 15 5))) (lmAdd (lmMul (lmAdd (cut p 5 5) (cut p 0 5)) (lmAdd (cut q 5 5) (cut q 0 5))) (lmMul (lmSub (cut p 5 5) (cut p 0 5)) (lmSub (cut q 5 5) (cut q 0 5))))) ++ (lmMul (lmSub (lmMul (lmAdd (cut p 10 5) (cut p 10 5)) (cut q 10 5)) (lmMul (lmMul k (cut p 15 5)) (cut q 15 5))) (lmAdd (lmMul (lmAdd (cut p 10 5) (cut p 10 5)) (cut q 10 5)) (lmMul (lmMul k (cut p 15 5)) (cut q 15 5)))) ++ (lmMul (lmSub (lmMul (lmAdd (cut p 5 5) (cut p 0 5)) (lmAdd (cut q 5 5) (cut q 0 5))) (lmMul (lmSub (cut p 5 5) (cut p 0 5)) (lmSub (cut q 5 5) (cut q 0 5)))) (lmAdd (lmMul (lmAdd (cut p 5 5) (cut p 0 5)) (lmAdd (cut q 5 5) (cut q 0 5))) (lmMul (lmSub (cut p 5 5) (cut p 0 5)) (lmSub (cut q 5 5) (cut q 0 5)))))
set_option maxRecDepth 100000 in
set_option maxHeartbeats 2000000 in
theorem cvPlus_ev (p : List (BitVec 64)) (q : List (BitVec 64)) (k : List (BitVec 64)) (hp : p.length = 20) (hq : q.length = 20) (hk : k.length = 5) : Ev Try.prog (.call 88 [.agg (.a64 (p)), .agg (.a64 (q)), .agg (.a64 (k))] []) (.val (.agg (.a64 (cvPlus p q k))) []) := by
  have hP : Hid (cvPlus p q k = (lmMul (lmSub (lmMul (lmAdd (cut p 5 5) (cut p 0 5)) (lmAdd (cut q 5 5) (cut q 0 5))) (lmMul (lmSub (cut p 5 5) (cut p 0 5)) (lmSub (cut q 5 5) (cut q 0 5)))) (lmSub (lmMul (lmAdd (cut p 10 5) (cut p 10 5)) (cut q 10 5)) (lmMul (lmMul k (cut p 15 5)) (cut q 15 5)))) ++ (lmMul (lmAdd (lmMul (lmAdd (cut p 10 5) (cut p 10 5)) (cut q 10 5)) (lmMul (lmMul k (cut p 15 5)) (cut q 15 5))) (lmAdd (lmMul (lmAdd (cut p 5 5) (cut p 0 5)) (lmAdd (cut q 5 5) (cut q 0 5))) (lmMul (lmSub (cut p 5 5) (cut p 0 5)) (lmSub (cut q 5 5) (cut q 0 5))))) ++ (lmMul (lmSub (lmMul (lmAdd (cut p 10 5) (cut p 10 5)) (cut q 10 5)) (lmMul (lmMul k (cut p 15 5)) (cut q 15 5))) (lmAdd (lmMul (lmAdd (cut p 10 5) (cut p 10 5)) (cut q 10 5)) (lmMul (lmMul k (cut p 15 5)) (cut q 15 5)))) ++ (lmMul (lmSub (lmMul (lmAdd (cut p 5 5) (cut p 0 5)) (lmAdd (cut q 5 5) (cut q 0 5))) (lmMul (lmSub (cut p 5 5) (cut p 0 5)) (lmSub (cut q 5 5) (cut q 0 5)))) (lmAdd (lmMul (lmAdd (cut p 5 5) (cut p 0 5)) (lmAdd (cut q 5 5) (cut q 0 5))) (lmMul (lmSub (cut p 5 5) (cut p 0 5)) (lmSub (cut q 5 5) (cut q 0 5)))))) := ⟨rfl⟩
  refine c_call Try.func88 rfl Try.ntmps88 rfl LEN_ ?_
  refine S_ ?_
  refine c_region ?_
  refine s_memN (m_box BX_ LEN_) APP_ rfl ?_
  refine s_memN (m_box BX_ LEN_) APP_ rfl ?_
  refine s_memN (m_box BX_ LEN_) APP_ rfl ?_
  refine s_memN (m_alloc al_54 LEN_) APP_ rfl ?_
  refine s_nil ?_
  have hQ1 : (cut p 5 5).length = 5 := LQ_
  have hQ2 : (cut p 0 5).length = 5 := LQ_
  have hQ3 : (lmSub (cut p 5 5) (cut p 0 5)).length = 5 := LQ_
  have hQ4 : (cut q 5 5).length = 5 := LQ_
  have hQ5 : (cut q 0 5).length = 5 := LQ_
  have hQ6 : (lmSub (cut q 5 5) (cut q 0 5)).length = 5 := LQ_
  have hQ7 : (lmMul (lmSub (cut p 5 5) (cut p 0 5)) (lmSub (cut q 5 5) (cut q 0 5))).length = 5 := LQ_
  refine S_ ?_
  refine c_draw 12 mixed (by kernel_rfl) rfl rfl rfl ?_
  refine h_val (v_fieldP rfl (fa_54_1 _ _)) rfl ?_
  refine h_val (v_loadW64 rfl rfl row_52 sz_52 LE_ (by decide)) rfl ?_
  refine h_val (v_fieldP rfl (fa_54_0 _ _)) rfl ?_
  refine h_val (v_loadW64 rfl rfl row_52 sz_52 LE_ (by decide)) rfl ?_
  refine h_evN (e_callR (bs := []) (lmSub_ev (cut p 5 5) (cut p 0 5) HYP_ HYP_) ok_67 (by kernel_rfl) (by kernel_rfl) rfl VAL_) APP_ rfl ?_
  refine h_val (v_fieldP rfl (fa_54_1 _ _)) rfl ?_
  refine h_val (v_loadW64 rfl rfl row_52 sz_52 LE_ (by decide)) rfl ?_
  refine h_val (v_fieldP rfl (fa_54_0 _ _)) rfl ?_
  refine h_val (v_loadW64 rfl rfl row_52 sz_52 LE_ (by decide)) rfl ?_
  refine h_evN (e_callR (bs := []) (lmSub_ev (cut q 5 5) (cut q 0 5) HYP_ HYP_) ok_67 (by kernel_rfl) (by kernel_rfl) rfl VAL_) APP_ rfl ?_
  refine h_evN (e_callR (bs := []) (lmMul_ev (lmSub (cut p 5 5) (cut p 0 5)) (lmSub (cut q 5 5) (cut q 0 5)) HYP_ HYP_) ok_65 (by kernel_rfl) (by kernel_rfl) rfl VAL_) APP_ rfl ?_
  refine h_memN (m_alloc al_52 LEN_) APP_ rfl ?_
  refine h_nil ?_
  refine s_storeR rfl rfl rfl rfl sz_52 EQ_ EQ_ SET_ ?_
  refine s_nil ?_
  have hQ8 : (cut p 5 5).length = 5 := LQ_
  have hQ9 : (cut p 0 5).length = 5 := LQ_
  have hQ10 : (lmAdd (cut p 5 5) (cut p 0 5)).length = 5 := LQ_
  have hQ11 : (cut q 5 5).length = 5 := LQ_
  have hQ12 : (cut q 0 5).length = 5 := LQ_
  have hQ13 : (lmAdd (cut q 5 5) (cut q 0 5)).length = 5 := LQ_
  have hQ14 : (lmMul (lmAdd (cut p 5 5) (cut p 0 5)) (lmAdd (cut q 5 5) (cut q 0 5))).length = 5 := LQ_
  refine S_ ?_
  refine c_draw 12 mixed (by kernel_rfl) rfl rfl rfl ?_
  refine h_val (v_fieldP rfl (fa_54_1 _ _)) rfl ?_
  refine h_val (v_loadW64 rfl rfl row_52 sz_52 LE_ (by decide)) rfl ?_
  refine h_val (v_fieldP rfl (fa_54_0 _ _)) rfl ?_
  refine h_val (v_loadW64 rfl rfl row_52 sz_52 LE_ (by decide)) rfl ?_
  refine h_evN (e_callR (bs := []) (lmAdd_ev (cut p 5 5) (cut p 0 5) HYP_ HYP_) ok_70 (by kernel_rfl) (by kernel_rfl) rfl VAL_) APP_ rfl ?_
  refine h_val (v_fieldP rfl (fa_54_1 _ _)) rfl ?_
  refine h_val (v_loadW64 rfl rfl row_52 sz_52 LE_ (by decide)) rfl ?_
  refine h_val (v_fieldP rfl (fa_54_0 _ _)) rfl ?_
  refine h_val (v_loadW64 rfl rfl row_52 sz_52 LE_ (by decide)) rfl ?_
  refine h_evN (e_callR (bs := []) (lmAdd_ev (cut q 5 5) (cut q 0 5) HYP_ HYP_) ok_70 (by kernel_rfl) (by kernel_rfl) rfl VAL_) APP_ rfl ?_
  refine h_evN (e_callR (bs := []) (lmMul_ev (lmAdd (cut p 5 5) (cut p 0 5)) (lmAdd (cut q 5 5) (cut q 0 5)) HYP_ HYP_) ok_65 (by kernel_rfl) (by kernel_rfl) rfl VAL_) APP_ rfl ?_
  refine h_memN (m_alloc al_52 LEN_) APP_ rfl ?_
  refine h_nil ?_
  refine s_storeR rfl rfl rfl rfl sz_52 EQ_ EQ_ SET_ ?_
  refine s_nil ?_
  have hQ15 : (cut p 15 5).length = 5 := LQ_
  have hQ16 : (lmMul k (cut p 15 5)).length = 5 := LQ_
  have hQ17 : (cut q 15 5).length = 5 := LQ_
  have hQ18 : (lmMul (lmMul k (cut p 15 5)) (cut q 15 5)).length = 5 := LQ_
  refine S_ ?_
  refine c_draw 8 mixed (by kernel_rfl) rfl rfl rfl ?_
  refine h_val (v_loadR rfl rfl row_52 sz_52 EQ_ (by decide)) rfl ?_
  refine h_val (v_fieldP rfl (fa_54_3 _ _)) rfl ?_
  refine h_val (v_loadW64 rfl rfl row_52 sz_52 LE_ (by decide)) rfl ?_
  refine h_evN (e_callR (bs := []) (lmMul_ev k (cut p 15 5) HYP_ HYP_) ok_65 (by kernel_rfl) (by kernel_rfl) rfl VAL_) APP_ rfl ?_
  refine h_val (v_fieldP rfl (fa_54_3 _ _)) rfl ?_
  refine h_val (v_loadW64 rfl rfl row_52 sz_52 LE_ (by decide)) rfl ?_
  refine h_evN (e_callR (bs := []) (lmMul_ev (lmMul k (cut p 15 5)) (cut q 15 5) HYP_ HYP_) ok_65 (by kernel_rfl) (by kernel_rfl) rfl VAL_) APP_ rfl ?_
  refine h_memN (m_alloc al_52 LEN_) APP_ rfl ?_
  refine h_nil ?_
  refine s_storeR rfl rfl rfl rfl sz_52 EQ_ EQ_ SET_ ?_
  refine s_nil ?_
  have hQ19 : (cut p 10 5).length = 5 := LQ_
  have hQ20 : (lmAdd (cut p 10 5) (cut p 10 5)).length = 5 := LQ_
  have hQ21 : (cut q 10 5).length = 5 := LQ_
  have hQ22 : (lmMul (lmAdd (cut p 10 5) (cut p 10 5)) (cut q 10 5)).length = 5 := LQ_
  refine S_ ?_
  refine c_draw 9 mixed (by kernel_rfl) rfl rfl rfl ?_
  refine h_val (v_fieldP rfl (fa_54_2 _ _)) rfl ?_
  refine h_val (v_loadW64 rfl rfl row_52 sz_52 LE_ (by decide)) rfl ?_
  refine h_val (v_fieldP rfl (fa_54_2 _ _)) rfl ?_
  refine h_val (v_loadW64 rfl rfl row_52 sz_52 LE_ (by decide)) rfl ?_
  refine h_evN (e_callR (bs := []) (lmAdd_ev (cut p 10 5) (cut p 10 5) HYP_ HYP_) ok_70 (by kernel_rfl) (by kernel_rfl) rfl VAL_) APP_ rfl ?_
  refine h_val (v_fieldP rfl (fa_54_2 _ _)) rfl ?_
  refine h_val (v_loadW64 rfl rfl row_52 sz_52 LE_ (by decide)) rfl ?_
  refine h_evN (e_callR (bs := []) (lmMul_ev (lmAdd (cut p 10 5) (cut p 10 5)) (cut q 10 5) HYP_ HYP_) ok_65 (by kernel_rfl) (by kernel_rfl) rfl VAL_) APP_ rfl ?_
  refine h_memN (m_alloc al_52 LEN_) APP_ rfl ?_
  refine h_nil ?_
  refine s_storeR rfl rfl rfl rfl sz_52 EQ_ EQ_ SET_ ?_
  refine s_nil ?_
  have hQ23 : (lmSub (lmMul (lmAdd (cut p 5 5) (cut p 0 5)) (lmAdd (cut q 5 5) (cut q 0 5))) (lmMul (lmSub (cut p 5 5) (cut p 0 5)) (lmSub (cut q 5 5) (cut q 0 5)))).length = 5 := LQ_
  have hQ24 : (lmSub (lmMul (lmAdd (cut p 10 5) (cut p 10 5)) (cut q 10 5)) (lmMul (lmMul k (cut p 15 5)) (cut q 15 5))).length = 5 := LQ_
  have hQ25 : (lmAdd (lmMul (lmAdd (cut p 10 5) (cut p 10 5)) (cut q 10 5)) (lmMul (lmMul k (cut p 15 5)) (cut q 15 5))).length = 5 := LQ_
  have hQ26 : (lmAdd (lmMul (lmAdd (cut p 5 5) (cut p 0 5)) (lmAdd (cut q 5 5) (cut q 0 5))) (lmMul (lmSub (cut p 5 5) (cut p 0 5)) (lmSub (cut q 5 5) (cut q 0 5)))).length = 5 := LQ_
  refine S_ ?_
  refine c_draw 16 mixed (by kernel_rfl) rfl rfl rfl ?_
  refine h_val (v_loadR rfl rfl row_52 sz_52 EQ_ (by decide)) rfl ?_
  refine h_val (v_loadR rfl rfl row_52 sz_52 EQ_ (by decide)) rfl ?_
  refine h_evN (e_callR (bs := []) (lmSub_ev (lmMul (lmAdd (cut p 5 5) (cut p 0 5)) (lmAdd (cut q 5 5) (cut q 0 5))) (lmMul (lmSub (cut p 5 5) (cut p 0 5)) (lmSub (cut q 5 5) (cut q 0 5))) HYP_ HYP_) ok_67 (by kernel_rfl) (by kernel_rfl) rfl VAL_) APP_ rfl ?_
  refine h_val (v_loadR rfl rfl row_52 sz_52 EQ_ (by decide)) rfl ?_
  refine h_val (v_loadR rfl rfl row_52 sz_52 EQ_ (by decide)) rfl ?_
  refine h_evN (e_callR (bs := []) (lmSub_ev (lmMul (lmAdd (cut p 10 5) (cut p 10 5)) (cut q 10 5)) (lmMul (lmMul k (cut p 15 5)) (cut q 15 5)) HYP_ HYP_) ok_67 (by kernel_rfl) (by kernel_rfl) rfl VAL_) APP_ rfl ?_
  refine h_val (v_loadR rfl rfl row_52 sz_52 EQ_ (by decide)) rfl ?_
  refine h_val (v_loadR rfl rfl row_52 sz_52 EQ_ (by decide)) rfl ?_
  refine h_evN (e_callR (bs := []) (lmAdd_ev (lmMul (lmAdd (cut p 10 5) (cut p 10 5)) (cut q 10 5)) (lmMul (lmMul k (cut p 15 5)) (cut q 15 5)) HYP_ HYP_) ok_70 (by kernel_rfl) (by kernel_rfl) rfl VAL_) APP_ rfl ?_
  refine h_val (v_loadR rfl rfl row_52 sz_52 EQ_ (by decide)) rfl ?_
  refine h_val (v_loadR rfl rfl row_52 sz_52 EQ_ (by decide)) rfl ?_
  refine h_evN (e_callR (bs := []) (lmAdd_ev (lmMul (lmAdd (cut p 5 5) (cut p 0 5)) (lmAdd (cut q 5 5) (cut q 0 5))) (lmMul (lmSub (cut p 5 5) (cut p 0 5)) (lmSub (cut q 5 5) (cut q 0 5))) HYP_ HYP_) ok_70 (by kernel_rfl) (by kernel_rfl) rfl VAL_) APP_ rfl ?_
  refine h_memN (m_alloc al_52 LEN_) APP_ rfl ?_
  refine h_memN (m_alloc al_52 LEN_) APP_ rfl ?_
  refine h_memN (m_alloc al_52 LEN_) APP_ rfl ?_
  refine h_memN (m_alloc al_52 LEN_) APP_ rfl ?_
  refine h_nil ?_
  refine s_storeR rfl rfl rfl rfl sz_52 EQ_ EQ_ SET_ ?_
  refine s_storeR rfl rfl rfl rfl sz_52 EQ_ EQ_ SET_ ?_
  refine s_storeR rfl rfl rfl rfl sz_52 EQ_ EQ_ SET_ ?_
  refine s_storeR rfl rfl rfl rfl sz_52 EQ_ EQ_ SET_ ?_
  refine s_nil ?_
  have hQ27 : (lmMul (lmSub (lmMul (lmAdd (cut p 5 5) (cut p 0 5)) (lmAdd (cut q 5 5) (cut q 0 5))) (lmMul (lmSub (cut p 5 5) (cut p 0 5)) (lmSub (cut q 5 5) (cut q 0 5)))) (lmSub (lmMul (lmAdd (cut p 10 5) (cut p 10 5)) (cut q 10 5)) (lmMul (lmMul k (cut p 15 5)) (cut q 15 5)))).length = 5 := LQ_
  have hQ28 : (lmMul (lmAdd (lmMul (lmAdd (cut p 10 5) (cut p 10 5)) (cut q 10 5)) (lmMul (lmMul k (cut p 15 5)) (cut q 15 5))) (lmAdd (lmMul (lmAdd (cut p 5 5) (cut p 0 5)) (lmAdd (cut q 5 5) (cut q 0 5))) (lmMul (lmSub (cut p 5 5) (cut p 0 5)) (lmSub (cut q 5 5) (cut q 0 5))))).length = 5 := LQ_
  have hQ29 : (lmMul (lmSub (lmMul (lmAdd (cut p 10 5) (cut p 10 5)) (cut q 10 5)) (lmMul (lmMul k (cut p 15 5)) (cut q 15 5))) (lmAdd (lmMul (lmAdd (cut p 10 5) (cut p 10 5)) (cut q 10 5)) (lmMul (lmMul k (cut p 15 5)) (cut q 15 5)))).length = 5 := LQ_
  have hQ30 : (lmMul (lmSub (lmMul (lmAdd (cut p 5 5) (cut p 0 5)) (lmAdd (cut q 5 5) (cut q 0 5))) (lmMul (lmSub (cut p 5 5) (cut p 0 5)) (lmSub (cut q 5 5) (cut q 0 5)))) (lmAdd (lmMul (lmAdd (cut p 5 5) (cut p 0 5)) (lmAdd (cut q 5 5) (cut q 0 5))) (lmMul (lmSub (cut p 5 5) (cut p 0 5)) (lmSub (cut q 5 5) (cut q 0 5))))).length = 5 := LQ_
  refine S_ ?_
  refine c_draw 13 mixed (by kernel_rfl) rfl rfl rfl ?_
  refine h_val (v_loadR rfl rfl row_52 sz_52 EQ_ (by decide)) rfl ?_
  refine h_val (v_loadR rfl rfl row_52 sz_52 EQ_ (by decide)) rfl ?_
  refine h_evN (e_callR (bs := []) (lmMul_ev (lmSub (lmMul (lmAdd (cut p 5 5) (cut p 0 5)) (lmAdd (cut q 5 5) (cut q 0 5))) (lmMul (lmSub (cut p 5 5) (cut p 0 5)) (lmSub (cut q 5 5) (cut q 0 5)))) (lmSub (lmMul (lmAdd (cut p 10 5) (cut p 10 5)) (cut q 10 5)) (lmMul (lmMul k (cut p 15 5)) (cut q 15 5))) HYP_ HYP_) ok_65 (by kernel_rfl) (by kernel_rfl) rfl VAL_) APP_ rfl ?_
  refine h_val (v_loadR rfl rfl row_52 sz_52 EQ_ (by decide)) rfl ?_
  refine h_val (v_loadR rfl rfl row_52 sz_52 EQ_ (by decide)) rfl ?_
  refine h_evN (e_callR (bs := []) (lmMul_ev (lmAdd (lmMul (lmAdd (cut p 10 5) (cut p 10 5)) (cut q 10 5)) (lmMul (lmMul k (cut p 15 5)) (cut q 15 5))) (lmAdd (lmMul (lmAdd (cut p 5 5) (cut p 0 5)) (lmAdd (cut q 5 5) (cut q 0 5))) (lmMul (lmSub (cut p 5 5) (cut p 0 5)) (lmSub (cut q 5 5) (cut q 0 5)))) HYP_ HYP_) ok_65 (by kernel_rfl) (by kernel_rfl) rfl VAL_) APP_ rfl ?_
  refine h_val (v_loadR rfl rfl row_52 sz_52 EQ_ (by decide)) rfl ?_
  refine h_val (v_loadR rfl rfl row_52 sz_52 EQ_ (by decide)) rfl ?_
  refine h_evN (e_callR (bs := []) (lmMul_ev (lmSub (lmMul (lmAdd (cut p 10 5) (cut p 10 5)) (cut q 10 5)) (lmMul (lmMul k (cut p 15 5)) (cut q 15 5))) (lmAdd (lmMul (lmAdd (cut p 10 5) (cut p 10 5)) (cut q 10 5)) (lmMul (lmMul k (cut p 15 5)) (cut q 15 5))) HYP_ HYP_) ok_65 (by kernel_rfl) (by kernel_rfl) rfl VAL_) APP_ rfl ?_
  refine h_val (v_loadR rfl rfl row_52 sz_52 EQ_ (by decide)) rfl ?_
  refine h_val (v_loadR rfl rfl row_52 sz_52 EQ_ (by decide)) rfl ?_
  refine h_evN (e_callR (bs := []) (lmMul_ev (lmSub (lmMul (lmAdd (cut p 5 5) (cut p 0 5)) (lmAdd (cut q 5 5) (cut q 0 5))) (lmMul (lmSub (cut p 5 5) (cut p 0 5)) (lmSub (cut q 5 5) (cut q 0 5)))) (lmAdd (lmMul (lmAdd (cut p 5 5) (cut p 0 5)) (lmAdd (cut q 5 5) (cut q 0 5))) (lmMul (lmSub (cut p 5 5) (cut p 0 5)) (lmSub (cut q 5 5) (cut q 0 5)))) HYP_ HYP_) ok_65 (by kernel_rfl) (by kernel_rfl) rfl VAL_) APP_ rfl ?_
  refine h_val (v_bld4 rfl rfl rfl rfl (bs_54 EQL_ EQL_ EQL_ EQL_)) rfl ?_
  refine h_nil ?_
  refine s_storeR rfl rfl rfl rfl sz_54 EQ_ EQ_ SET_ ?_
  refine s_nil ?_
  refine S_ ?_
  rw [hP.out]
  exact k_1 (r_row rfl rfl row_54 sz_54 EQ_ (by decide)) (by first | kernel_rfl | rfl)
@[simp] theorem cvPlus_len (p : List (BitVec 64)) (q : List (BitVec 64)) (k : List (BitVec 64)) (hp : p.length = 20) (hq : q.length = 20) (hk : k.length = 5) : (cvPlus p q k).length = 20 := by
  unfold cvPlus
  first | (simp (maxDischargeDepth := 9) [*]; done) | (simp (maxDischargeDepth := 9) [*]; omega) | (split <;> (simp (maxDischargeDepth := 9) [*]; done))
attribute [irreducible] cvPlus
end Go.Proofs.Ytcgncafhonlmlaa
namespace Go.Proofs.Ytcgncafhonlmlaa
open Go.RowKit
def cvSum (p : List (BitVec 64)) (q : List (BitVec 64)) : List (BitVec 64) := cvPlus p q (lmAdd cvBend cvBend)
set_option maxRecDepth 100000 in
set_option maxHeartbeats 2000000 in
theorem cvSum_ev (p : List (BitVec 64)) (q : List (BitVec 64)) (hp : p.length = 20) (hq : q.length = 20) : Ev Try.prog (.call 75 [.agg (.a64 (p)), .agg (.a64 (q))] []) (.val (.agg (.a64 (cvSum p q))) []) := by
  have hP : Hid (cvSum p q = cvPlus p q (lmAdd cvBend cvBend)) := ⟨rfl⟩
  refine c_call Try.func75 rfl Try.ntmps75 rfl LEN_ ?_
  refine S_ ?_
  refine c_region ?_
  refine s_memN (m_box BX_ LEN_) APP_ rfl ?_
  refine s_memN (m_box BX_ LEN_) APP_ rfl ?_
  refine s_memN (m_alloc al_54 LEN_) APP_ rfl ?_
  refine s_nil ?_
  have hQ1 : (cvBend).length = 5 := LQ_
  have hQ2 : (lmAdd cvBend cvBend).length = 5 := LQ_
  have hQ3 : (cvPlus p q (lmAdd cvBend cvBend)).length = 20 := LQ_
  refine S_ ?_
  refine c_draw 6 mixed (by kernel_rfl) rfl rfl rfl ?_
  refine h_val (v_loadR rfl rfl row_54 sz_54 EQ_ (by decide)) rfl ?_
  refine h_val (v_loadR rfl rfl row_54 sz_54 EQ_ (by decide)) rfl ?_
  refine h_evN (e_callR (bs := []) (cvBend_ev) ok_71 (by kernel_rfl) (by kernel_rfl) rfl VAL_) APP_ rfl ?_
  refine h_evN (e_callR (bs := []) (cvBend_ev) ok_71 (by kernel_rfl) (by kernel_rfl) rfl VAL_) APP_ rfl ?_
  refine h_evN (e_callR (bs := []) (lmAdd_ev cvBend cvBend HYP_ HYP_) ok_70 (by kernel_rfl) (by kernel_rfl) rfl VAL_) APP_ rfl ?_
  refine h_evN (e_callR (bs := []) (cvPlus_ev p q (lmAdd cvBend cvBend) HYP_ HYP_ HYP_) ok_88 (by kernel_rfl) (by kernel_rfl) rfl VAL_) APP_ rfl ?_
  refine h_nil ?_
  refine s_storeR rfl rfl rfl rfl sz_54 EQ_ EQ_ SET_ ?_
  refine s_nil ?_
  refine S_ ?_
  rw [hP.out]
  exact k_1 (r_row rfl rfl row_54 sz_54 EQ_ (by decide)) (by first | kernel_rfl | rfl)
@[simp] theorem cvSum_len (p : List (BitVec 64)) (q : List (BitVec 64)) (hp : p.length = 20) (hq : q.length = 20) : (cvSum p q).length = 20 := by
  unfold cvSum
  first | (simp (maxDischargeDepth := 9) [*]; done) | (simp (maxDischargeDepth := 9) [*]; omega) | (split <;> (simp (maxDischargeDepth := 9) [*]; done))
attribute [irreducible] cvSum
def cvTimes_L3_S (n : List (BitVec 8)) (p : List (BitVec 64)) (X4 : List (BitVec 64)) (j3 : Nat) : List (BitVec 64) := (if ((((nth n ((255 - j3) / 8)) >>> ((255 - j3) % 8)) &&& 1#8) == 1#8) = true then cvPlus (cvPlus X4 X4 (lmAdd cvBend cvBend)) p (lmAdd cvBend cvBend) else cvPlus X4 X4 (lmAdd cvBend cvBend))
def cvTimes_L3 (n : List (BitVec 8)) (p : List (BitVec 64)) : Nat → List (BitVec 64)
  | 0 => cvNone
  | j3 + 1 => cvTimes_L3_S n p (cvTimes_L3 n p j3) j3
theorem cvTimes_L3_len (n : List (BitVec 8)) (p : List (BitVec 64)) (hn : n.length = 32) (hp : p.length = 20) (j3 : Nat) : (cvTimes_L3 n p j3).length = 20 := by
  induction j3 with
  | zero => first | (simp (maxDischargeDepth := 9) [cvTimes_L3, *]; done) | (simp (maxDischargeDepth := 9) [cvTimes_L3, *]; omega)
  | succ j3 ih => rw [cvTimes_L3.eq_2, cvTimes_L3_S]; first | (simp (maxDischargeDepth := 9) [ih]; done) | (simp (maxDischargeDepth := 9) [ih]; omega) | (simp (maxDischargeDepth := 9) [*]; done) | (simp (maxDischargeDepth := 9) [*]; omega) | (split <;> first | (simp (maxDischargeDepth := 9) [ih]; done) | (simp (maxDischargeDepth := 9) [ih]; omega) | (simp (maxDischargeDepth := 9) [*]; done))
def cvTimes (n : List (BitVec 8)) (p : List (BitVec 64)) : List (BitVec 64) := (cvTimes_L3 n p 256)
set_option maxRecDepth 100000 in
set_option maxHeartbeats 2000000 in
theorem cvTimes_ev (n : List (BitVec 8)) (p : List (BitVec 64)) (hn : n.length = 32) (hp : p.length = 20) : Ev Try.prog (.call 46 [.agg (.a8 (n)), .agg (.a64 (p))] []) (.val (.agg (.a64 (cvTimes n p))) []) := by
  have hP : Hid (cvTimes n p = (cvTimes_L3 n p 256)) := ⟨rfl⟩
  refine c_call Try.func46 rfl Try.ntmps46 rfl LEN_ ?_
  refine S_ ?_
  refine c_region ?_
  refine s_memN (m_box BX_ LEN_) APP_ rfl ?_
  refine s_memN (m_box BX_ LEN_) APP_ rfl ?_
  refine s_memN (m_alloc al_54 LEN_) APP_ rfl ?_
  refine s_nil ?_
  have hQ1 : (cvNone).length = 20 := LQ_
  have hQ2 : (cvBend).length = 5 := LQ_
  have hQ3 : (lmAdd cvBend cvBend).length = 5 := LQ_
  refine S_ ?_
  refine c_region ?_
  refine s_evN (e_callR (bs := []) (cvNone_ev) ok_87 (by kernel_rfl) (by kernel_rfl) rfl VAL_) APP_ rfl ?_
  refine s_evN (e_callR (bs := []) (cvBend_ev) ok_71 (by kernel_rfl) (by kernel_rfl) rfl VAL_) APP_ rfl ?_
  refine s_evN (e_callR (bs := []) (cvBend_ev) ok_71 (by kernel_rfl) (by kernel_rfl) rfl VAL_) APP_ rfl ?_
  refine s_evN (e_callR (bs := []) (lmAdd_ev cvBend cvBend HYP_ HYP_) ok_70 (by kernel_rfl) (by kernel_rfl) rfl VAL_) APP_ rfl ?_
  refine s_memN (m_alloc al_54 LEN_) APP_ rfl ?_
  refine s_memN (m_alloc al_52 LEN_) APP_ rfl ?_
  refine s_storeR rfl rfl rfl rfl sz_54 EQ_ EQ_ SET_ ?_
  refine s_storeR rfl rfl rfl rfl sz_52 EQ_ EQ_ SET_ ?_
  refine s_nil ?_
  refine S_ ?_
  refine c_region ?_
  refine s_val (v_assignC rfl) rfl ?_
  refine s_nil ?_
  refine S_ ?_
  refine c_loopC [2, 3, 4, 5, 6, 7] (fun (zz : Nat × List (BitVec 64)) => ⟨34, keepT [2, 3, 4, 5, 6, 7] [.c (.ptr 0 0), .c (.ptr 1 0), .c (.ptr 2 0), .c (.ptr 3 0), .c (.ptr 4 0), .c (.val (.int .i64 (((255 : Nat) : Int) - ((zz.1 : Nat) : Int))))], [.row true (.a8 (n)), .row true (.a64 (p)), .row true (.a64 (zer64 20)), .row true (.a64 (zz.2)), .row true (.a64 (lmAdd cvBend cvBend))]⟩) (fun j3 => (j3, cvTimes_L3 n p j3)) (256) (by kernel_rfl) ?_ ?_
  · intro j3 hj3
    try dsimp only
    have hX4 : (cvTimes_L3 n p j3).length = 20 := by rw [cvTimes_L3_len n p hn hp _]; try omega
    rw [cvTimes_L3.eq_2, cvTimes_L3_S]
    generalize cvTimes_L3 n p j3 = X4 at *
    rw [show ((255 : Nat) : Int) - ((j3 : Nat) : Int) = ((255 - j3 : Nat) : Int) from by omega]
    refine S_ ?_
    refine c_region ?_
    refine s_val (v_moveC rfl) rfl ?_
    refine s_val (v_geqN (b := 0) rfl rfl) rfl ?_
    refine s_nil ?_
    have hQ5 : (cvPlus X4 X4 (lmAdd cvBend cvBend)).length = 20 := LQ_
    refine S_ ?_
    refine c_region ?_
    refine s_val (v_loadR rfl rfl row_54 sz_54 EQ_ (by decide)) rfl ?_
    refine s_val (v_loadR rfl rfl row_54 sz_54 EQ_ (by decide)) rfl ?_
    refine s_val (v_loadR rfl rfl row_52 sz_52 EQ_ (by decide)) rfl ?_
    refine s_evN (e_callR (bs := []) (cvPlus_ev X4 X4 (lmAdd cvBend cvBend) HYP_ HYP_ HYP_) ok_88 (by kernel_rfl) (by kernel_rfl) rfl VAL_) APP_ rfl ?_
    refine s_storeR rfl rfl rfl rfl sz_54 EQ_ EQ_ SET_ ?_
    refine s_nil ?_
    refine S_ ?_
    refine c_region ?_
    refine s_val (v_moveC rfl) rfl ?_
    refine s_val (v_quoN (b := 8) rfl rfl (by omega) (by omega)) rfl ?_
    refine s_val (v_idxA1 rfl rfl Try.underlying22 sz_5 (by omega)) rfl ?_
    refine s_val (v_load8 rfl rfl row_5 LT_) rfl ?_
    refine s_val (v_moveC rfl) rfl ?_
    refine s_val (v_remN (b := 8) rfl rfl (by omega) (by omega)) rfl ?_
    refine s_val (v_shr8n rfl rfl) rfl ?_
    refine s_val (v_and8 (b := 1#8) rfl rfl) rfl ?_
    refine s_val (v_eql8 (b := 1#8) rfl rfl) rfl ?_
    refine s_nil ?_
    refine Q_ ?_
    refine c_join [2, 3, 4, 5, 6, 7] (fun (zz : List (BitVec 64)) => ⟨34, keepT [2, 3, 4, 5, 6, 7] [.c (.ptr 0 0), .c (.ptr 1 0), .c (.ptr 2 0), .c (.ptr 3 0), .c (.ptr 4 0), .c (.val (.int .i64 (((255 - j3 : Nat) : Int))))], [.row true (.a8 (n)), .row true (.a64 (p)), .row true (.a64 (zer64 20)), .row true (.a64 (zz)), .row true (.a64 (lmAdd cvBend cvBend))]⟩) (if ((((nth n ((255 - j3) / 8)) >>> ((255 - j3) % 8)) &&& 1#8) == 1#8) = true then cvPlus (cvPlus X4 X4 (lmAdd cvBend cvBend)) p (lmAdd cvBend cvBend) else cvPlus X4 X4 (lmAdd cvBend cvBend)) rfl (fun hb => ?_) (fun hb => ?_) ?_
    · -- the test is True
      have hQ7 : (cvPlus (cvPlus X4 X4 (lmAdd cvBend cvBend)) p (lmAdd cvBend cvBend)).length = 20 := LQ_
      refine S_ ?_
      refine c_region ?_
      refine s_val (v_loadR rfl rfl row_54 sz_54 EQ_ (by decide)) rfl ?_
      refine s_val (v_loadR rfl rfl row_54 sz_54 EQ_ (by decide)) rfl ?_
      refine s_val (v_loadR rfl rfl row_52 sz_52 EQ_ (by decide)) rfl ?_
      refine s_evN (e_callR (bs := []) (cvPlus_ev (cvPlus X4 X4 (lmAdd cvBend cvBend)) p (lmAdd cvBend cvBend) HYP_ HYP_ HYP_) ok_88 (by kernel_rfl) (by kernel_rfl) rfl VAL_) APP_ rfl ?_
      refine s_storeR rfl rfl rfl rfl sz_54 EQ_ EQ_ SET_ ?_
      refine s_nil ?_
      refine S_ ?_
      refine ⟨(cvPlus (cvPlus X4 X4 (lmAdd cvBend cvBend)) p (lmAdd cvBend cvBend)), by kernel_rfl, ?_⟩
      rw [if_pos (hb)]
    · -- the test is False
      refine S_ ?_
      refine ⟨(cvPlus X4 X4 (lmAdd cvBend cvBend)), by kernel_rfl, ?_⟩
      rw [if_neg (by first | (rw [hb]; decide) | simp [hb])]
    have hJ6 : (if ((((nth n ((255 - j3) / 8)) >>> ((255 - j3) % 8)) &&& 1#8) == 1#8) = true then cvPlus (cvPlus X4 X4 (lmAdd cvBend cvBend)) p (lmAdd cvBend cvBend) else cvPlus X4 X4 (lmAdd cvBend cvBend)).length = 20 := by split <;> simp [*]
    generalize (if ((((nth n ((255 - j3) / 8)) >>> ((255 - j3) % 8)) &&& 1#8) == 1#8) = true then cvPlus (cvPlus X4 X4 (lmAdd cvBend cvBend)) p (lmAdd cvBend cvBend) else cvPlus X4 X4 (lmAdd cvBend cvBend)) = J6 at *
    refine S_ ?_
    refine c_region ?_
    refine s_val (v_moveC rfl) rfl ?_
    first
      | refine s_val (v_subN (b := 1) rfl rfl (by omega) (by omega)) rfl ?_
      | refine s_val (v_subI rfl rfl (by omega)) rfl ?_
    refine s_val (v_assignC rfl) rfl ?_
    refine s_nil ?_
    refine ⟨(j3 + 1, _), (by
      dsimp only
      rw [show ((255 : Nat) : Int) - ((j3 + 1 : Nat) : Int) = ((255 - j3 : Nat) : Int) - 1 from by omega]
      kernel_rfl), rfl⟩
  · try dsimp only
    have hY8 : (cvTimes_L3 n p 256).length = 20 := by rw [cvTimes_L3_len n p hn hp _]; try omega
    generalize cvTimes_L3 n p 256 = Y8 at *
    refine S_ ?_
    refine c_region ?_
    refine s_val (v_moveC rfl) rfl ?_
    refine s_val (v_geqI rfl rfl) rfl ?_
    refine s_nil ?_
    refine S_ ?_
    refine c_region ?_
    refine s_val (v_loadR rfl rfl row_54 sz_54 EQ_ (by decide)) rfl ?_
    refine s_storeR rfl rfl rfl rfl sz_54 EQ_ EQ_ SET_ ?_
    refine s_nil ?_
    refine S_ ?_
    rw [hP.out]
    exact k_1 (r_row rfl rfl row_54 sz_54 EQ_ (by decide)) (by first | kernel_rfl | rfl)
@[simp] theorem cvTimes_len (n : List (BitVec 8)) (p : List (BitVec 64)) (hn : n.length = 32) (hp : p.length = 20) : (cvTimes n p).length = 20 := by
  unfold cvTimes
  first | (simp (maxDischargeDepth := 9) [cvTimes_L3_len, *]; done) | (simp (maxDischargeDepth := 9) [cvTimes_L3_len, *]; omega) | (split <;> (simp (maxDischargeDepth := 9) [cvTimes_L3_len, *]; done))
attribute [irreducible] cvTimes
def cvBase_L3_S (X1 : List (BitVec 8)) (j3 : Nat) : List (BitVec 8) := put X1 (1 + j3) 102#8
def cvBase_L3  : Nat → List (BitVec 8)
  | 0 => put (zer8 32) 0 88#8
  | j3 + 1 => cvBase_L3_S (cvBase_L3 j3) j3
@[simp] theorem cvBase_L3_len  (j3 : Nat) : (cvBase_L3 j3).length = 32 := by
  induction j3 with
  | zero => first | (simp (maxDischargeDepth := 9) [cvBase_L3, *]; done) | (simp (maxDischargeDepth := 9) [cvBase_L3, *]; omega)
  | succ j3 ih => rw [cvBase_L3.eq_2, cvBase_L3_S]; first | (simp (maxDischargeDepth := 9) [ih]; done) | (simp (maxDischargeDepth := 9) [ih]; omega) | (simp (maxDischargeDepth := 9) [*]; done) | (simp (maxDischargeDepth := 9) [*]; omega) | (split <;> first | (simp (maxDischargeDepth := 9) [ih]; done) | (simp (maxDischargeDepth := 9) [ih]; omega) | (simp (maxDischargeDepth := 9) [*]; done))
def cvBase  : List (BitVec 64) := unP (cvBase_L3 31)
set_option maxRecDepth 100000 in
set_option maxHeartbeats 2000000 in
theorem cvBase_ev   : Ev Try.prog (.call 47 [] []) (.val (.agg (.a64 (cvBase))) []) := by
  have hP : Hid (cvBase = unP (cvBase_L3 31)) := ⟨rfl⟩
  refine c_call Try.func47 rfl Try.ntmps47 rfl LEN_ ?_
  refine S_ ?_
  refine c_region ?_
  refine s_memN (m_alloc al_54 LEN_) APP_ rfl ?_
  refine s_nil ?_
  refine S_ ?_
  refine c_region ?_
  refine s_val (v_blf8 (l := (put (zer8 32) 0 (88#8))) za_22 Try.underlying22 sz_5 rfl rfl) rfl ?_
  refine s_memN (m_alloc al_22 LEN_) APP_ rfl ?_
  refine s_storeR rfl rfl rfl rfl sz_22 EQ_ EQ_ SET_ ?_
  refine s_nil ?_
  refine S_ ?_
  refine c_region ?_
  refine s_val (v_assignC rfl) rfl ?_
  refine s_nil ?_
  refine S_ ?_
  refine c_loopC [0, 1, 2] (fun (zz : Nat × List (BitVec 8)) => ⟨18, keepT [0, 1, 2] [.c (.ptr 0 0), .c (.ptr 1 0), .c (.val (.int .i64 (((1 + zz.1 : Nat) : Int))))], [.row true (.a64 (zer64 20)), .row true (.a8 (zz.2))]⟩) (fun j3 => (j3, cvBase_L3 j3)) (31) (by kernel_rfl) ?_ ?_
  · intro j3 hj3
    try dsimp only
    have hX1 : (cvBase_L3 j3).length = 32 := by rw [cvBase_L3_len _]; try omega
    rw [cvBase_L3.eq_2, cvBase_L3_S]
    generalize cvBase_L3 j3 = X1 at *
    refine S_ ?_
    refine c_region ?_
    refine s_val (v_moveC rfl) rfl ?_
    refine s_val (v_lssN (b := 32) rfl rfl) rfl ?_
    refine s_nil ?_
    refine S_ ?_
    refine c_region ?_
    refine s_val (v_moveC rfl) rfl ?_
    refine s_val (v_idxA1 rfl rfl Try.underlying22 sz_5 (by omega)) rfl ?_
    refine s_store8 (w := 102#8) rfl rfl rfl sz_5 LT_ SET_ ?_
    refine s_nil ?_
    refine S_ ?_
    refine c_region ?_
    refine s_val (v_moveC rfl) rfl ?_
    refine s_val (v_addN (b := 1) rfl rfl (by omega)) rfl ?_
    refine s_val (v_assignC rfl) rfl ?_
    refine s_nil ?_
    exact ⟨(j3 + 1, _), by kernel_rfl, rfl⟩
  · try dsimp only
    have hY2 : (cvBase_L3 31).length = 32 := by rw [cvBase_L3_len _]; try omega
    generalize cvBase_L3 31 = Y2 at *
    refine S_ ?_
    refine c_region ?_
    refine s_val (v_moveC rfl) rfl ?_
    refine s_val (v_lssN (a := 32) (b := 32) rfl rfl) rfl ?_
    refine s_nil ?_
    have hQ3 : (unP Y2).length = 20 := LQ_
    refine S_ ?_
    refine c_region ?_
    refine s_val (v_loadR rfl rfl row_22 sz_22 EQ_ (by decide)) rfl ?_
    refine s_evN (e_callR (bs := []) (un_ev Y2 HYP_) ok_33 (by kernel_rfl) (by kernel_rfl) rfl VAL_) APP_ rfl ?_
    refine s_val (v_moveT rfl) rfl ?_
    refine s_val (v_extract rfl rfl) rfl ?_
    refine s_val (v_extract rfl rfl) rfl ?_
    refine s_memN (m_alloc al_54 LEN_) APP_ rfl ?_
    refine s_storeR rfl rfl rfl rfl sz_54 EQ_ EQ_ SET_ ?_
    refine s_val (v_assignC rfl) rfl ?_
    refine s_nil ?_
    refine S_ ?_
    refine c_region ?_
    refine s_val (v_loadR rfl rfl row_54 sz_54 EQ_ (by decide)) rfl ?_
    refine s_storeR rfl rfl rfl rfl sz_54 EQ_ EQ_ SET_ ?_
    refine s_nil ?_
    refine S_ ?_
    rw [hP.out]
    exact k_1 (r_row rfl rfl row_54 sz_54 EQ_ (by decide)) (by first | kernel_rfl | rfl)
@[simp] theorem cvBase_len  : (cvBase).length = 20 := by
  unfold cvBase
  first | (simp (maxDischargeDepth := 9) [cvBase_L3_len, *]; done) | (simp (maxDischargeDepth := 9) [cvBase_L3_len, *]; omega) | (split <;> (simp (maxDischargeDepth := 9) [cvBase_L3_len, *]; done))
attribute [irreducible] cvBase
end Go.Proofs.Ytcgncafhonlmlaa
namespace Go.Proofs.Ytcgncafhonlmlaa
open Go.RowKit
def cvPacked (p : List (BitVec 64)) : List (BitVec 8) := (if (((nth (lmBytes (lmMul (cut p 0 5) (lmInv (cut p 10 5)))) 0) &&& 1#8) == 1#8) = true then put (lmBytes (lmMul (cut p 5 5) (lmInv (cut p 10 5)))) 31 ((nth (lmBytes (lmMul (cut p 5 5) (lmInv (cut p 10 5)))) 31) ||| 128#8) else lmBytes (lmMul (cut p 5 5) (lmInv (cut p 10 5))))
set_option maxRecDepth 100000 in
set_option maxHeartbeats 2000000 in
theorem cvPacked_ev (p : List (BitVec 64)) (hp : p.length = 20) : Ev Try.prog (.call 48 [.agg (.a64 (p))] []) (.val (.agg (.a8 (cvPacked p))) []) := by
  have hP : Hid (cvPacked p = (if (((nth (lmBytes (lmMul (cut p 0 5) (lmInv (cut p 10 5)))) 0) &&& 1#8) == 1#8) = true then put (lmBytes (lmMul (cut p 5 5) (lmInv (cut p 10 5)))) 31 ((nth (lmBytes (lmMul (cut p 5 5) (lmInv (cut p 10 5)))) 31) ||| 128#8) else lmBytes (lmMul (cut p 5 5) (lmInv (cut p 10 5))))) := ⟨rfl⟩
  refine c_call Try.func48 rfl Try.ntmps48 rfl LEN_ ?_
  refine S_ ?_
  refine c_region ?_
  refine s_memN (m_box BX_ LEN_) APP_ rfl ?_
  refine s_memN (m_alloc al_22 LEN_) APP_ rfl ?_
  refine s_nil ?_
  have hQ1 : (cut p 10 5).length = 5 := LQ_
  have hQ2 : (lmInv (cut p 10 5)).length = 5 := LQ_
  refine S_ ?_
  refine c_region ?_
  refine s_val (v_fieldP rfl (fa_54_2 _ _)) rfl ?_
  refine s_val (v_loadW64 rfl rfl row_52 sz_52 LE_ (by decide)) rfl ?_
  refine s_evN (e_callR (bs := []) (lmInv_ev (cut p 10 5) HYP_) ok_69 (by kernel_rfl) (by kernel_rfl) rfl VAL_) APP_ rfl ?_
  refine s_memN (m_alloc al_52 LEN_) APP_ rfl ?_
  refine s_storeR rfl rfl rfl rfl sz_52 EQ_ EQ_ SET_ ?_
  refine s_nil ?_
  have hQ3 : (cut p 5 5).length = 5 := LQ_
  have hQ4 : (lmMul (cut p 5 5) (lmInv (cut p 10 5))).length = 5 := LQ_
  have hQ5 : (lmBytes (lmMul (cut p 5 5) (lmInv (cut p 10 5)))).length = 32 := LQ_
  refine S_ ?_
  refine c_region ?_
  refine s_val (v_fieldP rfl (fa_54_1 _ _)) rfl ?_
  refine s_val (v_loadW64 rfl rfl row_52 sz_52 LE_ (by decide)) rfl ?_
  refine s_val (v_loadR rfl rfl row_52 sz_52 EQ_ (by decide)) rfl ?_
  refine s_evN (e_callR (bs := []) (lmMul_ev (cut p 5 5) (lmInv (cut p 10 5)) HYP_ HYP_) ok_65 (by kernel_rfl) (by kernel_rfl) rfl VAL_) APP_ rfl ?_
  refine s_evN (e_callR (bs := []) (lmBytes_ev (lmMul (cut p 5 5) (lmInv (cut p 10 5))) HYP_) ok_64 (by kernel_rfl) (by kernel_rfl) rfl VAL_) APP_ rfl ?_
  refine s_memN (m_alloc al_22 LEN_) APP_ rfl ?_
  refine s_storeR rfl rfl rfl rfl sz_22 EQ_ EQ_ SET_ ?_
  refine s_nil ?_
  have hQ6 : (cut p 0 5).length = 5 := LQ_
  have hQ7 : (lmMul (cut p 0 5) (lmInv (cut p 10 5))).length = 5 := LQ_
  refine S_ ?_
  refine c_region ?_
  refine s_val (v_fieldP rfl (fa_54_0 _ _)) rfl ?_
  refine s_val (v_loadW64 rfl rfl row_52 sz_52 LE_ (by decide)) rfl ?_
  refine s_val (v_loadR rfl rfl row_52 sz_52 EQ_ (by decide)) rfl ?_
  refine s_evN (e_callR (bs := []) (lmMul_ev (cut p 0 5) (lmInv (cut p 10 5)) HYP_ HYP_) ok_65 (by kernel_rfl) (by kernel_rfl) rfl VAL_) APP_ rfl ?_
  refine s_evN (e_callR (bs := []) (lmOdd_ev (lmMul (cut p 0 5) (lmInv (cut p 10 5))) HYP_) ok_73 (by kernel_rfl) (by kernel_rfl) rfl VAL_) APP_ rfl ?_
  refine s_nil ?_
  refine Q_ ?_
  refine c_join [2, 4] (fun (zz : List (BitVec 8)) => ⟨23, keepT [2, 4] [.c (.ptr 0 0), .c (.ptr 1 0)], [.row true (.a8 (zer8 32)), .row true (.a8 (zz))]⟩) (if (((nth (lmBytes (lmMul (cut p 0 5) (lmInv (cut p 10 5)))) 0) &&& 1#8) == 1#8) = true then put (lmBytes (lmMul (cut p 5 5) (lmInv (cut p 10 5)))) 31 ((nth (lmBytes (lmMul (cut p 5 5) (lmInv (cut p 10 5)))) 31) ||| 128#8) else lmBytes (lmMul (cut p 5 5) (lmInv (cut p 10 5)))) rfl (fun hb => ?_) (fun hb => ?_) ?_
  · -- the test is True
    refine S_ ?_
    refine c_region ?_
    refine s_val (v_idxA1 (j := 31) rfl rfl Try.underlying22 sz_5 (by omega)) rfl ?_
    refine s_val (v_load8 rfl rfl row_5 LT_) rfl ?_
    refine s_val (v_or8 (b := 128#8) rfl rfl) rfl ?_
    refine s_val (v_idxA1 (j := 31) rfl rfl Try.underlying22 sz_5 (by omega)) rfl ?_
    refine s_store8 rfl rfl rfl sz_5 LT_ SET_ ?_
    refine s_nil ?_
    refine S_ ?_
    refine ⟨(put (lmBytes (lmMul (cut p 5 5) (lmInv (cut p 10 5)))) 31 ((nth (lmBytes (lmMul (cut p 5 5) (lmInv (cut p 10 5)))) 31) ||| 128#8)), by kernel_rfl, ?_⟩
    rw [if_pos (hb)]
  · -- the test is False
    refine S_ ?_
    refine ⟨(lmBytes (lmMul (cut p 5 5) (lmInv (cut p 10 5)))), by kernel_rfl, ?_⟩
    rw [if_neg (by first | (rw [hb]; decide) | simp [hb])]
  have hJ8 : (if (((nth (lmBytes (lmMul (cut p 0 5) (lmInv (cut p 10 5)))) 0) &&& 1#8) == 1#8) = true then put (lmBytes (lmMul (cut p 5 5) (lmInv (cut p 10 5)))) 31 ((nth (lmBytes (lmMul (cut p 5 5) (lmInv (cut p 10 5)))) 31) ||| 128#8) else lmBytes (lmMul (cut p 5 5) (lmInv (cut p 10 5)))).length = 32 := by split <;> simp [*]
  generalize (if (((nth (lmBytes (lmMul (cut p 0 5) (lmInv (cut p 10 5)))) 0) &&& 1#8) == 1#8) = true then put (lmBytes (lmMul (cut p 5 5) (lmInv (cut p 10 5)))) 31 ((nth (lmBytes (lmMul (cut p 5 5) (lmInv (cut p 10 5)))) 31) ||| 128#8) else lmBytes (lmMul (cut p 5 5) (lmInv (cut p 10 5)))) = J8 at *
  refine S_ ?_
  refine c_region ?_
  refine s_val (v_loadR rfl rfl row_22 sz_22 EQ_ (by decide)) rfl ?_
  refine s_storeR rfl rfl rfl rfl sz_22 EQ_ EQ_ SET_ ?_
  refine s_nil ?_
  refine S_ ?_
  rw [hP.out]
  exact k_1 (r_row rfl rfl row_22 sz_22 EQ_ (by decide)) (by first | kernel_rfl | rfl)
@[simp] theorem cvPacked_len (p : List (BitVec 64)) (hp : p.length = 20) : (cvPacked p).length = 32 := by
  unfold cvPacked
  first | (simp (maxDischargeDepth := 9) [*]; done) | (simp (maxDischargeDepth := 9) [*]; omega) | (split <;> (simp (maxDischargeDepth := 9) [*]; done))
attribute [irreducible] cvPacked
end Go.Proofs.Ytcgncafhonlmlaa
namespace Go.Proofs.Ytcgncafhonlmlaa
open Go.RowKit
set_option maxRecDepth 100000 in
set_option maxHeartbeats 2000000 in
theorem cvCheckT_ev (p : List (BitVec 8)) (hp : p.length = 32) (hk : unOk p = true) : Ev Try.prog (.call 16 [.agg (.a8 (p))] []) (.val (.c (.val (.int .i64 ((0 : Nat) : Int)))) []) := by
  refine c_call Try.func16 rfl Try.ntmps16 rfl LEN_ ?_
  refine S_ ?_
  refine c_region ?_
  refine s_memN (m_box BX_ LEN_) APP_ rfl ?_
  refine s_val (v_assignC rfl) rfl ?_
  refine s_nil ?_
  have hQ2 : (unP p).length = 20 := LQ_
  have hE1 : (unOk p) = true := hk
  refine S_ ?_
  refine c_region ?_
  refine s_val (v_loadR rfl rfl row_22 sz_22 EQ_ (by decide)) rfl ?_
  refine s_evN (e_callR (bs := []) (un_ev p HYP_) ok_33 (by kernel_rfl) (by kernel_rfl) rfl VAL_) APP_ rfl ?_
  refine s_val (v_moveT rfl) rfl ?_
  refine s_val (v_extract rfl rfl) rfl ?_
  refine s_val (v_bool (v_extract rfl rfl) hE1) rfl ?_
  refine s_memN (m_alloc al_54 LEN_) APP_ rfl ?_
  refine s_storeR rfl rfl rfl rfl sz_54 EQ_ EQ_ SET_ ?_
  refine s_val (v_assignC rfl) rfl ?_
  refine s_nil ?_
  refine S_ ?_
  refine c_region ?_
  refine s_val (v_moveC rfl) rfl ?_
  refine s_val (v_unnotB rfl) rfl ?_
  refine s_nil ?_
  refine S_ ?_
  refine c_region ?_
  refine s_val (v_assignC rfl) rfl ?_
  refine s_nil ?_
  refine S_ ?_
  exact k_1 (by first | exact r_tmpC rfl | exact r_tmpA rfl) (by first | kernel_rfl | rfl)
def cvAddT0 (p : List (BitVec 8)) (q : List (BitVec 8)) : List (BitVec 8) := cvPacked (cvSum (unP p) (unP q))
set_option maxRecDepth 100000 in
set_option maxHeartbeats 2000000 in
theorem cvAddT_ev (p : List (BitVec 8)) (q : List (BitVec 8)) (hp : p.length = 32) (hq : q.length = 32) (hk : unOk p = true) (hq_ : unOk q = true) : Ev Try.prog (.call 38 [.agg (.a8 (p)), .agg (.a8 (q))] []) (.val (.tup [.agg (.a8 (cvAddT0 p q)), .c (.val (.int .i64 ((0 : Nat) : Int)))]) []) := by
  have hP_cvAddT0 : Hid (cvAddT0 p q = cvPacked (cvSum (unP p) (unP q))) := ⟨rfl⟩
  refine c_call Try.func38 rfl Try.ntmps38 rfl LEN_ ?_
  refine S_ ?_
  refine c_region ?_
  refine s_memN (m_box BX_ LEN_) APP_ rfl ?_
  refine s_memN (m_box BX_ LEN_) APP_ rfl ?_
  refine s_memN (m_alloc al_22 LEN_) APP_ rfl ?_
  refine s_val (v_assignC rfl) rfl ?_
  refine s_nil ?_
  have hQ2 : (unP p).length = 20 := LQ_
  have hE1 : (unOk p) = true := hk
  refine S_ ?_
  refine c_region ?_
  refine s_val (v_loadR rfl rfl row_22 sz_22 EQ_ (by decide)) rfl ?_
  refine s_evN (e_callR (bs := []) (un_ev p HYP_) ok_33 (by kernel_rfl) (by kernel_rfl) rfl VAL_) APP_ rfl ?_
  refine s_val (v_moveT rfl) rfl ?_
  refine s_val (v_extract rfl rfl) rfl ?_
  refine s_val (v_bool (v_extract rfl rfl) hE1) rfl ?_
  refine s_memN (m_alloc al_54 LEN_) APP_ rfl ?_
  refine s_storeR rfl rfl rfl rfl sz_54 EQ_ EQ_ SET_ ?_
  refine s_val (v_assignC rfl) rfl ?_
  refine s_nil ?_
  have hQ4 : (unP q).length = 20 := LQ_
  have hE3 : (unOk q) = true := hq_
  refine S_ ?_
  refine c_region ?_
  refine s_val (v_loadR rfl rfl row_22 sz_22 EQ_ (by decide)) rfl ?_
  refine s_evN (e_callR (bs := []) (un_ev q HYP_) ok_33 (by kernel_rfl) (by kernel_rfl) rfl VAL_) APP_ rfl ?_
  refine s_val (v_moveT rfl) rfl ?_
  refine s_val (v_extract rfl rfl) rfl ?_
  refine s_val (v_bool (v_extract rfl rfl) hE3) rfl ?_
  refine s_memN (m_alloc al_54 LEN_) APP_ rfl ?_
  refine s_storeR rfl rfl rfl rfl sz_54 EQ_ EQ_ SET_ ?_
  refine s_val (v_assignC rfl) rfl ?_
  refine s_nil ?_
  refine S_ ?_
  refine c_region ?_
  refine s_val (v_moveC rfl) rfl ?_
  refine s_val (v_unnotB rfl) rfl ?_
  refine s_val (v_moveC rfl) rfl ?_
  refine s_go GO_ ?_
  refine s_val (v_moveC rfl) rfl ?_
  refine s_go GO_ ?_
  refine s_val (v_unnotB rfl) rfl ?_
  refine s_val (v_pickF rfl PK_ rfl) rfl ?_
  refine s_nil ?_
  have hQ5 : (cvSum (unP p) (unP q)).length = 20 := LQ_
  have hQ6 : (cvPacked (cvSum (unP p) (unP q))).length = 32 := LQ_
  refine S_ ?_
  refine c_region ?_
  refine s_val (v_loadR rfl rfl row_54 sz_54 EQ_ (by decide)) rfl ?_
  refine s_val (v_loadR rfl rfl row_54 sz_54 EQ_ (by decide)) rfl ?_
  refine s_evN (e_callR (bs := []) (cvSum_ev (unP p) (unP q) HYP_ HYP_) ok_75 (by kernel_rfl) (by kernel_rfl) rfl VAL_) APP_ rfl ?_
  refine s_evN (e_callR (bs := []) (cvPacked_ev (cvSum (unP p) (unP q)) HYP_) ok_48 (by kernel_rfl) (by kernel_rfl) rfl VAL_) APP_ rfl ?_
  refine s_storeR rfl rfl rfl rfl sz_22 EQ_ EQ_ SET_ ?_
  refine s_val (v_assignC rfl) rfl ?_
  refine s_nil ?_
  refine S_ ?_
  rw [hP_cvAddT0.out]
  exact k_2 (r_row rfl rfl row_22 sz_22 EQ_ (by decide)) (by first | exact r_tmpC rfl | exact r_tmpA rfl) (by first | kernel_rfl | rfl)
@[simp] theorem cvAddT0_len (p : List (BitVec 8)) (q : List (BitVec 8)) (hp : p.length = 32) (hq : q.length = 32) : (cvAddT0 p q).length = 32 := by
  unfold cvAddT0
  first | (simp (maxDischargeDepth := 9) [*]; done) | (simp (maxDischargeDepth := 9) [*]; omega) | (split <;> (simp (maxDischargeDepth := 9) [*]; done))
attribute [irreducible] cvAddT0
def cvAddF0  : List (BitVec 8) := zer8 32
@[simp] theorem cvAddF0_len  : (cvAddF0).length = 32 := by
  unfold cvAddF0
  first | (simp (maxDischargeDepth := 9) [*]; done) | (simp (maxDischargeDepth := 9) [*]; omega) | (split <;> (simp (maxDischargeDepth := 9) [*]; done))
attribute [irreducible] cvAddF0
def cvAddN0  : List (BitVec 8) := zer8 32
set_option maxRecDepth 100000 in
set_option maxHeartbeats 2000000 in
theorem cvAddN_ev (p : List (BitVec 8)) (q : List (BitVec 8)) (hp : p.length = 32) (hq : q.length = 32) (hk : unOk p = false) : Ev Try.prog (.call 38 [.agg (.a8 (p)), .agg (.a8 (q))] []) (.val (.tup [.agg (.a8 (cvAddN0)), .c (.val (.int .i64 ((4 : Nat) : Int)))]) []) := by
  have hP_cvAddN0 : Hid (cvAddN0 = zer8 32) := ⟨rfl⟩
  refine c_call Try.func38 rfl Try.ntmps38 rfl LEN_ ?_
  refine S_ ?_
  refine c_region ?_
  refine s_memN (m_box BX_ LEN_) APP_ rfl ?_
  refine s_memN (m_box BX_ LEN_) APP_ rfl ?_
  refine s_memN (m_alloc al_22 LEN_) APP_ rfl ?_
  refine s_val (v_assignC rfl) rfl ?_
  refine s_nil ?_
  have hQ2 : (unP p).length = 20 := LQ_
  have hE1 : (unOk p) = false := hk
  refine S_ ?_
  refine c_region ?_
  refine s_val (v_loadR rfl rfl row_22 sz_22 EQ_ (by decide)) rfl ?_
  refine s_evN (e_callR (bs := []) (un_ev p HYP_) ok_33 (by kernel_rfl) (by kernel_rfl) rfl VAL_) APP_ rfl ?_
  refine s_val (v_moveT rfl) rfl ?_
  refine s_val (v_extract rfl rfl) rfl ?_
  refine s_val (v_bool (v_extract rfl rfl) hE1) rfl ?_
  refine s_memN (m_alloc al_54 LEN_) APP_ rfl ?_
  refine s_storeR rfl rfl rfl rfl sz_54 EQ_ EQ_ SET_ ?_
  refine s_val (v_assignC rfl) rfl ?_
  refine s_nil ?_
  have hQ3 : (unP q).length = 20 := LQ_
  refine S_ ?_
  refine c_region ?_
  refine s_val (v_loadR rfl rfl row_22 sz_22 EQ_ (by decide)) rfl ?_
  refine s_evN (e_callR (bs := []) (un_ev q HYP_) ok_33 (by kernel_rfl) (by kernel_rfl) rfl VAL_) APP_ rfl ?_
  refine s_val (v_moveT rfl) rfl ?_
  refine s_val (v_extract rfl rfl) rfl ?_
  refine s_val (v_extract rfl rfl) rfl ?_
  refine s_memN (m_alloc al_54 LEN_) APP_ rfl ?_
  refine s_storeR rfl rfl rfl rfl sz_54 EQ_ EQ_ SET_ ?_
  refine s_val (v_assignC rfl) rfl ?_
  refine s_nil ?_
  refine S_ ?_
  refine c_region ?_
  refine s_val (v_moveC rfl) rfl ?_
  refine s_val (v_unnotB rfl) rfl ?_
  refine s_val (v_moveC rfl) rfl ?_
  refine s_no GO_ rfl ?_
  refine s_no GO_ rfl ?_
  refine s_val (v_pickT rfl PK_ rfl) rfl ?_
  refine s_nil ?_
  refine S_ ?_
  refine c_region ?_
  refine s_val (v_blf8 (l := (zer8 32)) za_22 Try.underlying22 sz_5 rfl rfl) rfl ?_
  refine s_storeR rfl rfl rfl rfl sz_22 EQ_ EQ_ SET_ ?_
  refine s_val (v_assignC rfl) rfl ?_
  refine s_nil ?_
  refine S_ ?_
  rw [hP_cvAddN0.out]
  exact k_2 (r_row rfl rfl row_22 sz_22 EQ_ (by decide)) (by first | exact r_tmpC rfl | exact r_tmpA rfl) (by first | kernel_rfl | rfl)
@[simp] theorem cvAddN0_len  : (cvAddN0).length = 32 := by
  unfold cvAddN0
  first | (simp (maxDischargeDepth := 9) [*]; done) | (simp (maxDischargeDepth := 9) [*]; omega) | (split <;> (simp (maxDischargeDepth := 9) [*]; done))
attribute [irreducible] cvAddN0
def cvTmsT0 (n : List (BitVec 8)) (p : List (BitVec 8)) : List (BitVec 8) := cvPacked (cvTimes n (unP p))
set_option maxRecDepth 100000 in
set_option maxHeartbeats 2000000 in
theorem cvTmsT_ev (n : List (BitVec 8)) (p : List (BitVec 8)) (hn : n.length = 32) (hp : p.length = 32) (hk : unOk p = true) : Ev Try.prog (.call 37 [.agg (.a8 (n)), .agg (.a8 (p))] []) (.val (.tup [.agg (.a8 (cvTmsT0 n p)), .c (.val (.int .i64 ((0 : Nat) : Int)))]) []) := by
  have hP_cvTmsT0 : Hid (cvTmsT0 n p = cvPacked (cvTimes n (unP p))) := ⟨rfl⟩
  refine c_call Try.func37 rfl Try.ntmps37 rfl LEN_ ?_
  refine S_ ?_
  refine c_region ?_
  refine s_memN (m_box BX_ LEN_) APP_ rfl ?_
  refine s_memN (m_box BX_ LEN_) APP_ rfl ?_
  refine s_memN (m_alloc al_22 LEN_) APP_ rfl ?_
  refine s_val (v_assignC rfl) rfl ?_
  refine s_nil ?_
  have hQ2 : (unP p).length = 20 := LQ_
  have hE1 : (unOk p) = true := hk
  refine S_ ?_
  refine c_region ?_
  refine s_val (v_loadR rfl rfl row_22 sz_22 EQ_ (by decide)) rfl ?_
  refine s_evN (e_callR (bs := []) (un_ev p HYP_) ok_33 (by kernel_rfl) (by kernel_rfl) rfl VAL_) APP_ rfl ?_
  refine s_val (v_moveT rfl) rfl ?_
  refine s_val (v_extract rfl rfl) rfl ?_
  refine s_val (v_bool (v_extract rfl rfl) hE1) rfl ?_
  refine s_memN (m_alloc al_54 LEN_) APP_ rfl ?_
  refine s_storeR rfl rfl rfl rfl sz_54 EQ_ EQ_ SET_ ?_
  refine s_val (v_assignC rfl) rfl ?_
  refine s_nil ?_
  refine S_ ?_
  refine c_region ?_
  refine s_val (v_moveC rfl) rfl ?_
  refine s_val (v_unnotB rfl) rfl ?_
  refine s_nil ?_
  have hQ3 : (cvTimes n (unP p)).length = 20 := LQ_
  have hQ4 : (cvPacked (cvTimes n (unP p))).length = 32 := LQ_
  refine S_ ?_
  refine c_region ?_
  refine s_val (v_loadR rfl rfl row_22 sz_22 EQ_ (by decide)) rfl ?_
  refine s_val (v_loadR rfl rfl row_54 sz_54 EQ_ (by decide)) rfl ?_
  refine s_evN (e_callR (bs := []) (cvTimes_ev n (unP p) HYP_ HYP_) ok_46 (by kernel_rfl) (by kernel_rfl) rfl VAL_) APP_ rfl ?_
  refine s_evN (e_callR (bs := []) (cvPacked_ev (cvTimes n (unP p)) HYP_) ok_48 (by kernel_rfl) (by kernel_rfl) rfl VAL_) APP_ rfl ?_
  refine s_storeR rfl rfl rfl rfl sz_22 EQ_ EQ_ SET_ ?_
  refine s_val (v_assignC rfl) rfl ?_
  refine s_nil ?_
  refine S_ ?_
  rw [hP_cvTmsT0.out]
  exact k_2 (r_row rfl rfl row_22 sz_22 EQ_ (by decide)) (by first | exact r_tmpC rfl | exact r_tmpA rfl) (by first | kernel_rfl | rfl)
@[simp] theorem cvTmsT0_len (n : List (BitVec 8)) (p : List (BitVec 8)) (hn : n.length = 32) (hp : p.length = 32) : (cvTmsT0 n p).length = 32 := by
  unfold cvTmsT0
  first | (simp (maxDischargeDepth := 9) [*]; done) | (simp (maxDischargeDepth := 9) [*]; omega) | (split <;> (simp (maxDischargeDepth := 9) [*]; done))
attribute [irreducible] cvTmsT0
def cvTmsF0  : List (BitVec 8) := zer8 32
set_option maxRecDepth 100000 in
set_option maxHeartbeats 2000000 in
theorem cvTmsF_ev (n : List (BitVec 8)) (p : List (BitVec 8)) (hn : n.length = 32) (hp : p.length = 32) (hk : unOk p = false) : Ev Try.prog (.call 37 [.agg (.a8 (n)), .agg (.a8 (p))] []) (.val (.tup [.agg (.a8 (cvTmsF0)), .c (.val (.int .i64 ((4 : Nat) : Int)))]) []) := by
  have hP_cvTmsF0 : Hid (cvTmsF0 = zer8 32) := ⟨rfl⟩
  refine c_call Try.func37 rfl Try.ntmps37 rfl LEN_ ?_
  refine S_ ?_
  refine c_region ?_
  refine s_memN (m_box BX_ LEN_) APP_ rfl ?_
  refine s_memN (m_box BX_ LEN_) APP_ rfl ?_
  refine s_memN (m_alloc al_22 LEN_) APP_ rfl ?_
  refine s_val (v_assignC rfl) rfl ?_
  refine s_nil ?_
  have hQ2 : (unP p).length = 20 := LQ_
  have hE1 : (unOk p) = false := hk
  refine S_ ?_
  refine c_region ?_
  refine s_val (v_loadR rfl rfl row_22 sz_22 EQ_ (by decide)) rfl ?_
  refine s_evN (e_callR (bs := []) (un_ev p HYP_) ok_33 (by kernel_rfl) (by kernel_rfl) rfl VAL_) APP_ rfl ?_
  refine s_val (v_moveT rfl) rfl ?_
  refine s_val (v_extract rfl rfl) rfl ?_
  refine s_val (v_bool (v_extract rfl rfl) hE1) rfl ?_
  refine s_memN (m_alloc al_54 LEN_) APP_ rfl ?_
  refine s_storeR rfl rfl rfl rfl sz_54 EQ_ EQ_ SET_ ?_
  refine s_val (v_assignC rfl) rfl ?_
  refine s_nil ?_
  refine S_ ?_
  refine c_region ?_
  refine s_val (v_moveC rfl) rfl ?_
  refine s_val (v_unnotB rfl) rfl ?_
  refine s_nil ?_
  refine S_ ?_
  refine c_region ?_
  refine s_val (v_blf8 (l := (zer8 32)) za_22 Try.underlying22 sz_5 rfl rfl) rfl ?_
  refine s_storeR rfl rfl rfl rfl sz_22 EQ_ EQ_ SET_ ?_
  refine s_val (v_assignC rfl) rfl ?_
  refine s_nil ?_
  refine S_ ?_
  rw [hP_cvTmsF0.out]
  exact k_2 (r_row rfl rfl row_22 sz_22 EQ_ (by decide)) (by first | exact r_tmpC rfl | exact r_tmpA rfl) (by first | kernel_rfl | rfl)
@[simp] theorem cvTmsF0_len  : (cvTmsF0).length = 32 := by
  unfold cvTmsF0
  first | (simp (maxDischargeDepth := 9) [*]; done) | (simp (maxDischargeDepth := 9) [*]; omega) | (split <;> (simp (maxDischargeDepth := 9) [*]; done))
attribute [irreducible] cvTmsF0
def cvBs (n : List (BitVec 8)) : List (BitVec 8) := cvPacked (cvTimes n cvBase)
set_option maxRecDepth 100000 in
set_option maxHeartbeats 2000000 in
theorem cvBs_ev (n : List (BitVec 8)) (hn : n.length = 32) : Ev Try.prog (.call 22 [.agg (.a8 (n))] []) (.val (.agg (.a8 (cvBs n))) []) := by
  have hP : Hid (cvBs n = cvPacked (cvTimes n cvBase)) := ⟨rfl⟩
  refine c_call Try.func22 rfl Try.ntmps22 rfl LEN_ ?_
  refine S_ ?_
  refine c_region ?_
  refine s_memN (m_box BX_ LEN_) APP_ rfl ?_
  refine s_memN (m_alloc al_22 LEN_) APP_ rfl ?_
  refine s_nil ?_
  have hQ1 : (cvBase).length = 20 := LQ_
  have hQ2 : (cvTimes n cvBase).length = 20 := LQ_
  have hQ3 : (cvPacked (cvTimes n cvBase)).length = 32 := LQ_
  refine S_ ?_
  refine c_draw 4 mixed (by kernel_rfl) rfl rfl rfl ?_
  refine h_val (v_loadR rfl rfl row_22 sz_22 EQ_ (by decide)) rfl ?_
  refine h_evN (e_callR (bs := []) (cvBase_ev) ok_47 (by kernel_rfl) (by kernel_rfl) rfl VAL_) APP_ rfl ?_
  refine h_evN (e_callR (bs := []) (cvTimes_ev n cvBase HYP_ HYP_) ok_46 (by kernel_rfl) (by kernel_rfl) rfl VAL_) APP_ rfl ?_
  refine h_evN (e_callR (bs := []) (cvPacked_ev (cvTimes n cvBase) HYP_) ok_48 (by kernel_rfl) (by kernel_rfl) rfl VAL_) APP_ rfl ?_
  refine h_nil ?_
  refine s_storeR rfl rfl rfl rfl sz_22 EQ_ EQ_ SET_ ?_
  refine s_nil ?_
  refine S_ ?_
  rw [hP.out]
  exact k_1 (r_row rfl rfl row_22 sz_22 EQ_ (by decide)) (by first | kernel_rfl | rfl)
@[simp] theorem cvBs_len (n : List (BitVec 8)) (hn : n.length = 32) : (cvBs n).length = 32 := by
  unfold cvBs
  first | (simp (maxDischargeDepth := 9) [*]; done) | (simp (maxDischargeDepth := 9) [*]; omega) | (split <;> (simp (maxDischargeDepth := 9) [*]; done))
attribute [irreducible] cvBs
end Go.Proofs.Ytcgncafhonlmlaa
namespace Go.Proofs.Ytcgncafhonlmlaa
open Go.RowKit
def rB (n : List (BitVec 64)) : List (BitVec 8) := toB (wV n)
@[simp] theorem rB_len (n : List (BitVec 64)) : (rB n).length = 32 := toB_len _
theorem rB_same (n : List (BitVec 64)) : rfBytes n = rB n := by
  unfold rfBytes rB
  refine bytes_run n (rfBytes_L3 n) rfl fun j => ?_
  rw [rfBytes_L3, rfBytes_L3_S, BitVec.toNat_ofNat, Nat.mod_eq_of_lt (by omega)]
theorem rB_ev (n : List (BitVec 64)) (hn : n.length = 4) : Ev Try.prog (.call 21 [.agg (.a64 n)] []) (.val (.agg (.a8 (rB n))) []) := by
  rw [← rB_same]; exact rfBytes_ev n hn
def fSmall (n : BitVec 64) : List (BitVec 8) := F (zf n.toNat)
@[simp] theorem fSmall_len (n : BitVec 64) : (fSmall n).length = 32 := F_len _
theorem small_same (n : BitVec 64) : rB (put (zer64 4) 0 n) = fSmall n := by
  unfold rB fSmall F
  have h := n.isLt
  have e : wV (put (zer64 4) 0 n) = n.toNat := by
    show n.toNat + (0#64).toNat * _ + (0#64).toNat * _ + (0#64).toNat * _ = _
    rw [show (0#64 : BitVec 64).toNat = 0 from rfl]
    omega
  rw [e, zf_val, Nat.mod_eq_of_lt (Nat.lt_trans h (by decide))]
def pB : List (BitVec 8) := toB PP
@[simp] theorem pB_len : pB.length = 32 := toB_len _
attribute [irreducible] fSmall pB rB
end Go.Proofs.Ytcgncafhonlmlaa
namespace Go.Proofs.Ytcgncafhonlmlaa
open Go.RowKit
theorem zs1 : zf (1#64 : BitVec 64).toNat = 1 := rfl
theorem leS_small (n : BitVec 64) : leS (fSmall n) 32 = n.toNat := by
  unfold fSmall F
  rw [leS_toB _ _ (Nat.le_refl _), zf_val]
  have h := n.isLt
  rw [Nat.mod_eq_of_lt (Nat.lt_trans h (by decide)), Nat.mod_eq_of_lt (Nat.lt_trans h (by decide))]
end Go.Proofs.Ytcgncafhonlmlaa
namespace Go.Proofs.Ytcgncafhonlmlaa
open Go.RowKit
theorem leS_put_low (b : List (BitVec 8)) (i : Nat) (v : BitVec 8) (n : Nat) (h : n ≤ i) (hl : i < b.length) : leS (put b i v) n = leS b n := by
  induction n with
  | zero => rfl
  | succ n ih => rw [leS, leS, ih (by omega), nth_put _ _ _ _ hl, if_neg (by omega)]
theorem leS_put31 {b : List (BitVec 8)} (hb : b.length = 32) (v : BitVec 8) : leS (put b 31 v) 32 = leS b 31 + v.toNat * 452312848583266388373324160190187140051835877600158453279131187530910662656 := by
  rw [leS, leS_put_low _ _ _ _ (Nat.le_refl _) (by omega), nth_put _ _ _ _ (by omega), if_pos rfl]
theorem leS_top (b : List (BitVec 8)) : leS b 32 = leS b 31 + (nth b 31).toNat * 452312848583266388373324160190187140051835877600158453279131187530910662656 := by rw [leS]
theorem leS31_lt (b : List (BitVec 8)) : leS b 31 < 452312848583266388373324160190187140051835877600158453279131187530910662656 := leS_lt b 31
theorem and127 (x : BitVec 8) : (x &&& 127#8).toNat = x.toNat % 128 := by revert x; decide +kernel
theorem shr7 (x : BitVec 8) : (x >>> 7 == 1#8) = decide (128 ≤ x.toNat) := by revert x; decide +kernel
theorem or128 (x : BitVec 8) (h : x.toNat < 128) : (x ||| 128#8).toNat = x.toNat + 128 := by revert x; decide +kernel
abbrev MM : Nat := 57896044618658097711785492504343953926634992332820282019728792003956564819968
theorem top_and {b : List (BitVec 8)} (hb : b.length = 32) : leS (put b 31 (nth b 31 &&& 127#8)) 32 = leS b 32 % MM := by
  rw [leS_put31 hb, leS_top b, and127]
  have h := leS31_lt b
  show _ = _ % 57896044618658097711785492504343953926634992332820282019728792003956564819968
  omega
theorem top_bit (b : List (BitVec 8)) : (nth b 31 >>> 7 == 1#8) = decide (MM ≤ leS b 32) := by
  rw [shr7, leS_top b]
  have h := leS31_lt b
  refine decide_eq_decide.2 ?_
  show _ ↔ 57896044618658097711785492504343953926634992332820282019728792003956564819968 ≤ _
  omega
theorem top_or {b : List (BitVec 8)} (hb : b.length = 32) (hv : leS b 32 < MM) : leS (put b 31 (nth b 31 ||| 128#8)) 32 = leS b 32 + MM := by
  have h := leS31_lt b
  rw [leS_put31 hb, leS_top b]
  rw [leS_top b] at hv
  change _ < 57896044618658097711785492504343953926634992332820282019728792003956564819968 at hv
  rw [or128 _ (by omega)]
  show _ = _ + 57896044618658097711785492504343953926634992332820282019728792003956564819968
  omega
theorem neg_par {u : Fp} (hu : u ≠ 0) : (-u).val % 2 = 1 - u.val % 2 := by
  have hp : 0 < u.val := by
    rcases Nat.eq_zero_or_pos u.val with h | h
    · exact absurd (Fin.ext h) hu
    · exact h
  have hlt := u.isLt
  have e : (-u).val = PP - u.val := by
    rw [show -u = 0 - u from by grobner, Fin.sub_def]
    show (PP - u.val + 0) % PP = _
    rw [Nat.add_zero, Nat.mod_eq_of_lt (Nat.sub_lt (by decide) hp)]
  rw [e]
  change u.val < 57896044618658097711785492504343953926634992332820282019728792003956564819949 at hlt
  show (57896044618658097711785492504343953926634992332820282019728792003956564819949 - u.val) % 2 = _
  omega
theorem neg_sqF (u : Fp) : -u * -u = u * u := by grobner
theorem neg_zeroF : -(0 : Fp) = 0 := by grobner
theorem sq_par {u v : Fp} (h : u * u = v * v) (hp : u.val % 2 = v.val % 2) : u = v := by
  rcases sq_eq h with h1 | h1
  · exact h1
  · by_cases hv : v = 0
    · rw [h1, hv, neg_zeroF]
    · have := neg_par hv
      rw [← h1] at this
      omega
structure OPt where
  p : Pt
  on : On p
theorem OPt.same {P Q : OPt} (h : P.p = Q.p) : P = Q := by
  cases P; cases Q; cases h; rfl
def ozero : OPt := ⟨pzero, On_zero⟩
def oadd (P Q : OPt) : OPt := ⟨padd P.p Q.p, On_add P.on Q.on⟩
def oneg (P : OPt) : OPt := ⟨pneg P.p, On_neg P.on⟩
def omul (P : OPt) (n : Nat) : OPt := ⟨pmul P.p n, On_mul P.on n⟩
def obase : OPt := ⟨pB_, On_base⟩
theorem oadd_comm (P Q : OPt) : oadd P Q = oadd Q P := OPt.same (padd_comm _ _)
theorem oadd_assoc (P Q R : OPt) : oadd (oadd P Q) R = oadd P (oadd Q R) := OPt.same (padd_assoc P.on Q.on R.on)
theorem oadd_zero (P : OPt) : oadd P ozero = P := OPt.same (padd_zero _)
theorem oadd_neg (P : OPt) : oadd P (oneg P) = ozero := OPt.same (padd_neg P.on)
theorem omul_add (P : OPt) (m n : Nat) : omul P (m + n) = oadd (omul P m) (omul P n) := OPt.same (pmul_add P.on m n)
theorem omul_mul (P : OPt) (m n : Nat) : omul P (m * n) = omul (omul P m) n := OPt.same (pmul_mul P.on m n)
theorem omul_one (P : OPt) : omul P 1 = P := OPt.same (zero_padd _)
theorem ozero_mul (n : Nat) : omul ozero n = ozero := OPt.same (pmul_pzero n)
theorem obase_mod (n : Nat) : omul obase (n % L25519) = omul obase n := OPt.same (base_mod n)
def encN (P : OPt) : Nat := P.p.y.val + P.p.x.val % 2 * MM
def enc (P : OPt) : List (BitVec 8) := toB (encN P)
@[simp] theorem enc_len (P : OPt) : (enc P).length = 32 := toB_len _
theorem encN_parts (P : OPt) : encN P < 115792089237316195423570985008687907853269984665640564039457584007913129639936 ∧ encN P % MM = P.p.y.val ∧ (MM ≤ encN P ↔ P.p.x.val % 2 = 1) := by
  have h := P.p.y.isLt
  unfold encN
  change _ < 57896044618658097711785492504343953926634992332820282019728792003956564819949 at h
  change _ + _ * 57896044618658097711785492504343953926634992332820282019728792003956564819968 < _ ∧ (_ + _ * 57896044618658097711785492504343953926634992332820282019728792003956564819968) % 57896044618658097711785492504343953926634992332820282019728792003956564819968 = _ ∧ (57896044618658097711785492504343953926634992332820282019728792003956564819968 ≤ _ + _ * 57896044618658097711785492504343953926634992332820282019728792003956564819968 ↔ _)
  omega
theorem leS_enc (P : OPt) : leS (enc P) 32 = encN P := by
  unfold enc
  rw [leS_toB _ _ (Nat.le_refl _), Nat.mod_eq_of_lt]
  exact (encN_parts P).1
theorem enc_of {b : List (BitVec 8)} (hb : b.length = 32) {P : OPt} (h : encN P = leS b 32) : enc P = b := by
  unfold enc
  rw [h, toB_leS hb]
def xxOf (y : Fp) : Fp := (y * y - 1) * invF (dF * (y * y) + 1)
theorem On_xx (P : OPt) : P.p.x * P.p.x = xxOf P.p.y := (On_iff _ _).1 P.on
theorem xx_On {x y : Fp} (h : x * x = xxOf y) : On ⟨x, y⟩ := (On_iff _ _).2 h
theorem enc_inj {P Q : OPt} (h : encN P = encN Q) : P = Q := by
  obtain ⟨_, y1, b1⟩ := encN_parts P
  obtain ⟨_, y2, b2⟩ := encN_parts Q
  rw [h] at y1 b1
  have hy : P.p.y = Q.p.y := Fin.ext (y1.symm.trans y2)
  have hx : P.p.x = Q.p.x := by
    refine sq_par (by rw [On_xx, On_xx, hy]) ?_
    have := Nat.mod_two_eq_zero_or_one P.p.x.val
    have := Nat.mod_two_eq_zero_or_one Q.p.x.val
    have := b1.symm.trans b2
    omega
  refine OPt.same ?_
  cases hp : P.p
  cases hq : Q.p
  rw [hp, hq] at hx hy
  simp only at hx hy
  rw [hx, hy]
theorem enc_eq {P Q : OPt} : enc P = enc Q ↔ P = Q := ⟨fun h => enc_inj (by rw [← leS_enc, h, leS_enc]), fun h => by rw [h]⟩
def dOk (n : Nat) : Bool := decide (n % MM < PP) && (decide (rootF (xxOf (zf (n % MM))) * rootF (xxOf (zf (n % MM))) = xxOf (zf (n % MM))) && !(decide (MM ≤ n) && decide (rootF (xxOf (zf (n % MM))) = 0)))
def dX (n : Nat) : Fp := if (rootF (xxOf (zf (n % MM)))).val % 2 = n / MM then rootF (xxOf (zf (n % MM))) else -rootF (xxOf (zf (n % MM)))
theorem dOk_enc (P : OPt) : dOk (encN P) = true := by
  obtain ⟨h1, h2, h3⟩ := encN_parts P
  unfold dOk
  rw [h2, zf_self, ← On_xx, decide_eq_true P.p.y.isLt, decide_eq_true (rootF_sq _), Bool.true_and, Bool.true_and, Bool.not_eq_true', Bool.and_eq_false_iff]
  by_cases ho : MM ≤ encN P
  · refine .inr (decide_eq_false fun h0 => ?_)
    have hx : P.p.x * P.p.x = 0 := by rw [← rootF_sq P.p.x, h0]; exact zero_mulF _
    have hx0 : P.p.x = 0 := by rcases nozero hx with h | h <;> exact h
    have := h3.1 ho
    rw [hx0] at this
    change 0 % 2 = 1 at this
    omega
  · exact .inl (decide_eq_false ho)
theorem dOk_pt {n : Nat} (hn : n < 115792089237316195423570985008687907853269984665640564039457584007913129639936) (h : dOk n = true) : ∃ P : OPt, encN P = n ∧ P.p.y = zf (n % MM) ∧ P.p.x = dX n := by
  unfold dOk at h
  simp only [Bool.and_eq_true, Bool.not_eq_true', Bool.and_eq_false_iff, decide_eq_true_eq, decide_eq_false_iff_not] at h
  obtain ⟨hy, hr, ho⟩ := h
  have hd : n / MM ≤ 1 := by
    show n / 57896044618658097711785492504343953926634992332820282019728792003956564819968 ≤ 1
    omega
  have hm : MM ≤ n ↔ n / MM = 1 := by
    show 57896044618658097711785492504343953926634992332820282019728792003956564819968 ≤ n ↔ n / 57896044618658097711785492504343953926634992332820282019728792003956564819968 = 1
    omega
  have hs : dX n * dX n = xxOf (zf (n % MM)) := by
    rw [← hr]
    unfold dX
    split
    · rfl
    · exact neg_sqF _
  have hp : (dX n).val % 2 = n / MM := by
    unfold dX
    split
    · assumption
    · rename_i hc
      have h2 := Nat.mod_two_eq_zero_or_one (rootF (xxOf (zf (n % MM)))).val
      have hne : rootF (xxOf (zf (n % MM))) ≠ 0 := fun e => by
        rcases ho with h | h
        · rw [e] at hc
          change ¬ 0 % 2 = n / MM at hc
          rw [hm] at h
          generalize n / MM = q at *
          omega
        · exact h e
      rw [neg_par hne]
      generalize n / MM = q at *
      omega
  refine ⟨⟨⟨dX n, zf (n % MM)⟩, xx_On hs⟩, ?_, rfl, rfl⟩
  unfold encN
  show (zf (n % MM)).val + (dX n).val % 2 * MM = n
  rw [hp, zf_val, Nat.mod_eq_of_lt hy]
  have := Nat.div_add_mod n MM
  rw [Nat.mul_comm] at this
  omega
attribute [irreducible] enc
end Go.Proofs.Ytcgncafhonlmlaa
namespace Go.Proofs.Ytcgncafhonlmlaa
open Go.RowKit
def Fine20 (p : List (BitVec 64)) : Prop := p.length = 20 ∧ Fine (cut p 0 5) ∧ Fine (cut p 5 5) ∧ Fine (cut p 10 5) ∧ Fine (cut p 15 5)
def LQ (p : List (BitVec 64)) : Qt := ⟨LF (cut p 0 5), LF (cut p 5 5), LF (cut p 10 5), LF (cut p 15 5)⟩
theorem cuts4 {a b c d : List (BitVec 64)} (ha : a.length = 5) (hb : b.length = 5) (hc : c.length = 5) (hd : d.length = 5) : (a ++ b ++ c ++ d).length = 20 ∧ cut (a ++ b ++ c ++ d) 0 5 = a ∧ cut (a ++ b ++ c ++ d) 5 5 = b ∧ cut (a ++ b ++ c ++ d) 10 5 = c ∧ cut (a ++ b ++ c ++ d) 15 5 = d := by
  obtain ⟨a0, a1, a2, a3, a4, rfl⟩ := five ha
  obtain ⟨b0, b1, b2, b3, b4, rfl⟩ := five hb
  obtain ⟨c0, c1, c2, c3, c4, rfl⟩ := five hc
  obtain ⟨d0, d1, d2, d3, d4, rfl⟩ := five hd
  exact ⟨rfl, rfl, rfl, rfl, rfl⟩
theorem fine_app {a b c d : List (BitVec 64)} (ha : Fine a) (hb : Fine b) (hc : Fine c) (hd : Fine d) : Fine20 (a ++ b ++ c ++ d) ∧ LQ (a ++ b ++ c ++ d) = ⟨LF a, LF b, LF c, LF d⟩ := by
  obtain ⟨l, e1, e2, e3, e4⟩ := cuts4 ha.1 hb.1 hc.1 hd.1
  unfold Fine20 LQ
  rw [e1, e2, e3, e4]
  exact ⟨⟨l, ha, hb, hc, hd⟩, rfl⟩
theorem bend_fine : Fine cvBend ∧ LF cvBend = dF := by
  have h : ∀ b, b = [163#8, 120#8, 89#8, 19#8, 202#8, 77#8, 235#8, 117#8, 171#8, 216#8, 65#8, 65#8, 77#8, 10#8, 112#8, 0#8, 152#8, 232#8, 121#8, 119#8, 121#8, 64#8, 199#8, 140#8, 115#8, 254#8, 111#8, 43#8, 238#8, 108#8, 3#8, 82#8] → Fine (lmOf b) ∧ LF (lmOf b) = dF := fun b hb => by
    refine ⟨(of_fine b).1, ?_⟩
    rw [(of_fine b).2, hb]
    unfold dF
    decide +kernel
  unfold cvBend
  exact h _ rfl
theorem twice_fine : Fine (lmAdd cvBend cvBend) ∧ LF (lmAdd cvBend cvBend) = dF + dF := by
  have h := add_fine bend_fine.1 bend_fine.1
  rw [bend_fine.2] at h
  exact h
theorem plus_fine {p q k : List (BitVec 64)} (hp : Fine20 p) (hq : Fine20 q) (hk : Fine k ∧ LF k = dF + dF) : Fine20 (cvPlus p q k) ∧ LQ (cvPlus p q k) = qadd (LQ p) (LQ q) := by
  obtain ⟨_, p0, p1, p2, p3⟩ := hp
  obtain ⟨_, q0, q1, q2, q3⟩ := hq
  obtain ⟨k1, k2⟩ := hk
  have a1 := sub_fine p1 p0
  have a2 := sub_fine q1 q0
  have a := mul_fine a1.1 a2.1
  have b1 := add_fine p1 p0
  have b2 := add_fine q1 q0
  have b := mul_fine b1.1 b2.1
  have c1 := mul_fine k1 p3
  have c := mul_fine c1.1 q3
  have d1 := add_fine p2 p2
  have d := mul_fine d1.1 q2
  have e := sub_fine b.1 a.1
  have f := sub_fine d.1 c.1
  have g := add_fine d.1 c.1
  have h := add_fine b.1 a.1
  have ef := mul_fine e.1 f.1
  have gh := mul_fine g.1 h.1
  have fg := mul_fine f.1 g.1
  have eh := mul_fine e.1 h.1
  unfold cvPlus
  refine ⟨(fine_app ef.1 gh.1 fg.1 eh.1).1, ?_⟩
  rw [(fine_app ef.1 gh.1 fg.1 eh.1).2, ef.2, gh.2, fg.2, eh.2, e.2, f.2, g.2, h.2, a.2, b.2, c.2, d.2, a1.2, a2.2, b1.2, b2.2, c1.2, d1.2, k2]
  rfl
theorem none_fine : Fine20 cvNone ∧ LQ cvNone = qzero := by
  have s0 := small_fine (x := 0#64) (by decide)
  have s1 := small_fine (x := 1#64) (by decide)
  unfold cvNone
  refine ⟨(fine_app s0.1 s1.1 s1.1 s0.1).1, ?_⟩
  rw [(fine_app s0.1 s1.1 s1.1 s0.1).2, s0.2, s1.2]
  rfl
theorem times_run (n : List (BitVec 8)) {p : List (BitVec 64)} (hp : Fine20 p) : ∀ j, j ≤ 256 → Fine20 (cvTimes_L3 n p j) ∧ LQ (cvTimes_L3 n p j) = qmul (LQ p) (leS n 32) j := by
  intro j
  induction j with
  | zero =>
    intro _
    rw [cvTimes_L3, qmul]
    exact none_fine
  | succ j ih =>
    intro hj
    obtain ⟨h1, h2⟩ := ih (by omega)
    have h3 := plus_fine h1 h1 twice_fine
    have h4 := plus_fine h3.1 hp twice_fine
    rw [cvTimes_L3, cvTimes_L3_S, qmul, exp_bit n (255 - j) (by omega)]
    by_cases hc : leS n 32 / 2 ^ (255 - j) % 2 = 1
    · rw [if_pos (decide_eq_true hc), if_pos hc, h4.2, h3.2, h2]
      exact ⟨h4.1, rfl⟩
    · rw [if_neg (by rw [decide_eq_false hc]; decide), if_neg hc, h3.2, h2]
      exact ⟨h3.1, rfl⟩
theorem leS_lt32 (n : List (BitVec 8)) : leS n 32 < 2 ^ 256 := leS_lt n 32
theorem times_fine (n : List (BitVec 8)) {p : List (BitVec 64)} (hp : Fine20 p) {P : OPt} (hr : Rep (LQ p) P.p) : Fine20 (cvTimes n p) ∧ Rep (LQ (cvTimes n p)) (omul P (leS n 32)).p := by
  obtain ⟨h1, h2⟩ := times_run n hp 256 (Nat.le_refl _)
  unfold cvTimes
  rw [h2]
  exact ⟨h1, rep_times P.on hr _ (leS_lt32 n)⟩
theorem sum_fine {p q : List (BitVec 64)} (hp : Fine20 p) (hq : Fine20 q) {P Q : OPt} (h1 : Rep (LQ p) P.p) (h2 : Rep (LQ q) Q.p) : Fine20 (cvSum p q) ∧ Rep (LQ (cvSum p q)) (oadd P Q).p := by
  have h := plus_fine hp hq twice_fine
  unfold cvSum
  rw [h.2]
  exact ⟨h.1, rep_add P.on Q.on h1 h2⟩
theorem F_odd (u : Fp) : ((nth (F u) 0 &&& 1#8) == 1#8) = decide (u.val % 2 = 1) := by
  rw [odd_bit, F_nth0, BitVec.toNat_ofNat]
  refine decide_eq_decide.2 ?_
  omega
theorem leS_F (u : Fp) : leS (F u) 32 = u.val := by
  unfold F
  rw [leS_toB _ _ (Nat.le_refl _), Nat.mod_eq_of_lt (Nat.lt_trans u.isLt (by decide))]
theorem packed_enc {p : List (BitVec 64)} (hp : Fine20 p) {P : OPt} (hr : Rep (LQ p) P.p) : cvPacked p = enc P := by
  obtain ⟨_, p0, p1, p2, p3⟩ := hp
  obtain ⟨z, ex, ey, _⟩ := hr
  have i := inv_fine p2
  have x := mul_fine p0 i.1
  have y := mul_fine p1 i.1
  have hx : LF (lmMul (cut p 0 5) (lmInv (cut p 10 5))) = P.p.x := by rw [x.2, i.2]; exact quot_mul z ex
  have hy : LF (lmMul (cut p 5 5) (lmInv (cut p 10 5))) = P.p.y := by rw [y.2, i.2]; exact quot_mul z ey
  have hl : leS (F P.p.y) 32 < MM := by
    rw [leS_F]
    exact Nat.lt_trans P.p.y.isLt (by decide)
  unfold cvPacked
  rw [bytesF x.1, bytesF y.1, hx, hy, F_odd]
  by_cases ho : P.p.x.val % 2 = 1
  · rw [if_pos (decide_eq_true ho)]
    refine (enc_of (by rw [put_length, F_len]) ?_).symm
    rw [top_or (F_len _) hl, leS_F]
    unfold encN
    rw [ho, Nat.one_mul]
  · rw [if_neg (by rw [decide_eq_false ho]; decide)]
    refine (enc_of (F_len _) ?_).symm
    rw [leS_F]
    unfold encN
    rw [show P.p.x.val % 2 = 0 by omega, Nat.zero_mul, Nat.add_zero]
def lowN (b : List (BitVec 8)) : Nat := leS b 32 % MM
theorem unY_fine {b : List (BitVec 8)} (hb : b.length = 32) : Fine (unY b) ∧ LF (unY b) = zf (lowN b) := by
  have h := of_fine (put b 31 (nth b 31 &&& 127#8))
  rw [top_and hb] at h
  unfold unY lowN
  exact h
theorem unYY_fine {b : List (BitVec 8)} (hb : b.length = 32) : Fine (unYY b) ∧ LF (unYY b) = zf (lowN b) * zf (lowN b) := by
  have h := mul_fine (unY_fine hb).1 (unY_fine hb).1
  rw [(unY_fine hb).2] at h
  unfold unYY
  exact h
theorem unXX_fine {b : List (BitVec 8)} (hb : b.length = 32) : Fine (unXX b) ∧ LF (unXX b) = xxOf (zf (lowN b)) := by
  have s1 := small_fine (x := 1#64) (by decide)
  have y := unYY_fine hb
  have n := sub_fine y.1 s1.1
  have d1 := mul_fine bend_fine.1 y.1
  have d2 := add_fine d1.1 s1.1
  have d3 := inv_fine d2.1
  have h := mul_fine n.1 d3.1
  unfold unXX
  refine ⟨h.1, ?_⟩
  rw [h.2, n.2, d3.2, d2.2, d1.2, y.2, bend_fine.2, s1.2]
  rfl
theorem unR_fine {b : List (BitVec 8)} (hb : b.length = 32) : Fine (unR b) ∧ LF (unR b) = rootF (xxOf (zf (lowN b))) := by
  have h := (root_fine (unXX_fine hb).1).1
  rw [(unXX_fine hb).2] at h
  unfold unR
  exact h
theorem unIs_eq {b : List (BitVec 8)} (hb : b.length = 32) : unIs b = decide (rootF (xxOf (zf (lowN b))) * rootF (xxOf (zf (lowN b))) = xxOf (zf (lowN b))) := by
  have h := (root_fine (unXX_fine hb).1).2
  rw [(unXX_fine hb).2] at h
  unfold unIs
  exact h
theorem unZ_eq {b : List (BitVec 8)} (hb : b.length = 32) : unZ b = decide (rootF (xxOf (zf (lowN b))) = 0) := by
  have s0 := small_fine (x := 0#64) (by decide)
  unfold unZ
  rw [bytesF (unR_fine hb).1, bytesF s0.1, (unR_fine hb).2, s0.2]
  exact decide_eq_decide.2 F_inj
theorem lowN_lt (b : List (BitVec 8)) : lowN b < MM := Nat.mod_lt _ (by decide)
theorem put_low {b : List (BitVec 8)} (hb : b.length = 32) : put b 31 (nth b 31 &&& 127#8) = toB (lowN b) := by
  have h := toB_leS (b := put b 31 (nth b 31 &&& 127#8)) (by rw [put_length, hb])
  rw [top_and hb] at h
  exact h.symm
theorem F_low {n : Nat} (hn : n < MM) : (F (zf n) = toB n) ↔ n < PP := by
  unfold F
  rw [zf_val]
  have hM : MM < 256 ^ 32 := by decide
  constructor
  · intro h
    have h1 : leS (toB (n % PP)) 32 = leS (toB n) 32 := by rw [h]
    rw [leS_toB _ _ (Nat.le_refl _), leS_toB _ _ (Nat.le_refl _), Nat.mod_eq_of_lt (Nat.lt_trans hn hM), Nat.mod_eq_of_lt (Nat.lt_trans (Nat.mod_lt _ PP_pos) (by decide))] at h1
    rw [← h1]
    exact Nat.mod_lt _ PP_pos
  · intro h
    rw [Nat.mod_eq_of_lt h]
theorem unCd {b : List (BitVec 8)} (hb : b.length = 32) : unC b = decide (lowN b < PP) := by
  unfold unC
  rw [bytesF (unY_fine hb).1, (unY_fine hb).2, put_low hb]
  exact decide_eq_decide.2 (F_low (lowN_lt b))
theorem unOd (b : List (BitVec 8)) : unO b = decide (MM ≤ leS b 32) := by
  unfold unO
  exact top_bit b
theorem unOk_dOk {b : List (BitVec 8)} (hb : b.length = 32) : unOk b = dOk (leS b 32) := by
  unfold unOk dOk
  rw [unCd hb, unIs_eq hb, unOd, unZ_eq hb]
  rfl
theorem unOk_enc (P : OPt) : unOk (enc P) = true := by
  rw [unOk_dOk (enc_len P), leS_enc]
  exact dOk_enc P
theorem rep_one {x y : Fp} : Rep ⟨x, y, 1, x * y⟩ ⟨x, y⟩ := ⟨one_neF, (mul_oneF _).symm, (mul_oneF _).symm, (mul_oneF _).symm⟩
theorem un_app {b : List (BitVec 8)} (hb : b.length = 32) {X : List (BitVec 64)} (hX : Fine X) : Fine20 (X ++ unY b ++ lmSmall 1#64 ++ lmMul X (unY b)) ∧ LQ (X ++ unY b ++ lmSmall 1#64 ++ lmMul X (unY b)) = ⟨LF X, zf (lowN b), 1, LF X * zf (lowN b)⟩ := by
  have s1 := small_fine (x := 1#64) (by decide)
  have y := unY_fine hb
  have m := mul_fine hX y.1
  have h := fine_app hX y.1 s1.1 m.1
  refine ⟨h.1, ?_⟩
  rw [h.2, y.2, s1.2, m.2, y.2, zs1]
theorem zero_sub_neg (u : Fp) : 0 - u = -u := by grobner
theorem par_if {α : Type} (m : Nat) (o : Bool) (h : m = 0 ∨ m = 1) (S R : α) : (if (!((decide (m = 1)) == o)) = true then S else R) = (if m = (if o then 1 else 0) then R else S) := by
  rcases h with rfl | rfl <;> cases o <;> rfl
theorem un_x {b : List (BitVec 8)} (hb : b.length = 32) (o : Bool) (ho : unO b = o) : Fine (if (!((((nth (lmBytes (unR b)) 0) &&& 1#8) == 1#8) == o)) = true then lmSub (lmSmall 0#64) (unR b) else unR b) ∧ LF (if (!((((nth (lmBytes (unR b)) 0) &&& 1#8) == 1#8) == o)) = true then lmSub (lmSmall 0#64) (unR b) else unR b) = dX (leS b 32) := by
  have r := unR_fine hb
  have s0 := small_fine (x := 0#64) (by decide)
  have s := sub_fine s0.1 r.1
  have hs : LF (lmSub (lmSmall 0#64) (unR b)) = -rootF (xxOf (zf (lowN b))) := by
    rw [s.2, s0.2, r.2]
    exact zero_sub_neg _
  have hn : leS b 32 < 115792089237316195423570985008687907853269984665640564039457584007913129639936 := leS_lt b 32
  rw [bytesF r.1, r.2, F_odd]
  unfold dX
  rw [show leS b 32 % MM = lowN b from rfl]
  rw [unOd] at ho
  have hd : leS b 32 / MM = if o then 1 else 0 := by
    cases o with
    | true =>
      have h := of_decide_eq_true ho
      change 57896044618658097711785492504343953926634992332820282019728792003956564819968 ≤ _ at h
      show _ / 57896044618658097711785492504343953926634992332820282019728792003956564819968 = 1
      omega
    | false =>
      have h := of_decide_eq_false ho
      change ¬ 57896044618658097711785492504343953926634992332820282019728792003956564819968 ≤ _ at h
      show _ / 57896044618658097711785492504343953926634992332820282019728792003956564819968 = 0
      omega
  rw [hd, par_if _ o (Nat.mod_two_eq_zero_or_one (rootF (xxOf (zf (lowN b)))).val)]
  by_cases hc : (rootF (xxOf (zf (lowN b)))).val % 2 = if o then 1 else 0
  · rw [if_pos hc, if_pos hc]
    exact r
  · rw [if_neg hc, if_neg hc]
    exact ⟨s.1, hs⟩
theorem unP_rep {b : List (BitVec 8)} (hb : b.length = 32) (h : unOk b = true) : ∃ P : OPt, b = enc P ∧ Fine20 (unP b) ∧ Rep (LQ (unP b)) P.p := by
  obtain ⟨P, h1, h2, h3⟩ := dOk_pt (leS_lt b 32) (by rw [← unOk_dOk hb]; exact h)
  refine ⟨P, (enc_of hb h1).symm, ?_⟩
  have hP : P.p = ⟨dX (leS b 32), zf (lowN b)⟩ := by
    cases hp : P.p with
    | mk x y => rw [hp] at h2 h3; simp only at h2 h3; rw [h2, h3]; rfl
  rw [hP]
  unfold unP
  rw [if_pos h]
  cases ho : unO b with
  | true =>
    rw [if_pos rfl]
    obtain ⟨x1, x2⟩ := un_x hb true ho
    have e := un_app hb x1
    unfold cvUnF0
    refine ⟨e.1, ?_⟩
    rw [e.2, x2]
    exact rep_one
  | false =>
    rw [if_neg (by decide)]
    obtain ⟨x1, x2⟩ := un_x hb false ho
    have e := un_app hb x1
    unfold cvUnE0
    refine ⟨e.1, ?_⟩
    rw [e.2, x2]
    exact rep_one
theorem unP_enc (P : OPt) : Fine20 (unP (enc P)) ∧ Rep (LQ (unP (enc P))) P.p := by
  obtain ⟨Q, e, h⟩ := unP_rep (enc_len P) (unOk_enc P)
  rw [enc_eq.1 e] at h ⊢
  exact h
theorem baseL_nth : cvBase_L3 31 = enc obase := by decide +kernel
theorem base_rep : Fine20 cvBase ∧ Rep (LQ cvBase) obase.p := by
  unfold cvBase
  rw [baseL_nth]
  exact unP_enc obase
theorem add_enc (P Q : OPt) : cvAddT0 (enc P) (enc Q) = enc (oadd P Q) := by
  obtain ⟨f1, r1⟩ := unP_enc P
  obtain ⟨f2, r2⟩ := unP_enc Q
  obtain ⟨f3, r3⟩ := sum_fine f1 f2 r1 r2
  unfold cvAddT0
  exact packed_enc f3 r3
theorem tms_enc (n : List (BitVec 8)) (P : OPt) : cvTmsT0 n (enc P) = enc (omul P (leS n 32)) := by
  obtain ⟨f1, r1⟩ := unP_enc P
  obtain ⟨f3, r3⟩ := times_fine n f1 r1
  unfold cvTmsT0
  exact packed_enc f3 r3
theorem bs_enc (n : List (BitVec 8)) : cvBs n = enc (omul obase (leS n 32)) := by
  obtain ⟨f1, r1⟩ := base_rep
  obtain ⟨f3, r3⟩ := times_fine n f1 r1
  unfold cvBs
  exact packed_enc f3 r3
end Go.Proofs.Ytcgncafhonlmlaa
namespace Go.Proofs.Ytcgncafhonlmlaa
open Go.RowKit
def oB (n : List (BitVec 8)) : OPt := omul obase (leS n 32)
def oT (n : List (BitVec 8)) (P : OPt) : OPt := omul P (leS n 32)
theorem ckE_ev (P : OPt) : Ev Try.prog (.call 16 [.agg (.a8 (enc P))] []) (.val (.c (.val (.int .i64 ((0 : Nat) : Int)))) []) := cvCheckT_ev (enc P) (enc_len P) (unOk_enc P)
theorem bsE_ev (n : List (BitVec 8)) (hn : n.length = 32) : Ev Try.prog (.call 22 [.agg (.a8 n)] []) (.val (.agg (.a8 (enc (oB n)))) []) := by
  have h := cvBs_ev n hn
  rw [bs_enc] at h
  exact h
theorem enc_zero : enc ozero = fSmall 1#64 := by
  unfold enc fSmall F encN
  decide +kernel
theorem leS_sm (n : BitVec 64) : leS (fSmall n) 32 = n.toNat := leS_small n
theorem oB_one : oB (fSmall 1#64) = obase := by
  unfold oB
  rw [leS_sm]
  exact omul_one _
attribute [irreducible] oB oT
end Go.Proofs.Ytcgncafhonlmlaa
namespace Go.Proofs.Ytcgncafhonlmlaa
open Go.RowKit
theorem sMA_ev (a b c : List (BitVec 8)) (ha : a.length = 32) (hb : b.length = 32) (hc : c.length = 32) : Ev Try.prog (.call 20 [.agg (.a8 a), .agg (.a8 b), .agg (.a8 c)] []) (.val (.agg (.a8 (sMA a b c))) []) := by
  rw [← sMA_same]; exact scMulAdd_ev a b c ha hb hc
theorem sBelow_ev (n : List (BitVec 8)) (hn : n.length = 32) : Ev Try.prog (.call 17 [.agg (.a8 n)] []) (.val (.c (.val (.bool (sBelow n)))) []) := by
  rw [← sBelow_same hn]; exact scBelow_ev n hn
theorem sMod_ev (b : List (BitVec 8)) (n cap : Nat) (hb : b.length = n) (hn : n ≤ 64) : Ev Try.prog (.call 51 [.c (.sl 0 0 n cap 1)] [.row false (.a8 b)]) (.val (.tup [.agg (.a8 (sMod b)), .c (.val (.int .i64 ((0 : Nat) : Int)))]) [.row false (.a8 b)]) := by
  rw [← sMod_same]; exact scModT_ev b n cap hb (by omega) hn
theorem L_lt : L25519 < 256 ^ 32 := by unfold L25519; decide
theorem leS_modL (x : Nat) : leS (toB (x % L25519)) 32 = x % L25519 := by
  rw [leS_toB _ _ (Nat.le_refl _), Nat.mod_eq_of_lt (Nat.lt_trans (Nat.mod_lt _ L_pos) L_lt)]
theorem leS_sMA (a b c : List (BitVec 8)) : leS (sMA a b c) 32 = (leS a 32 * leS b 32 + leS c 32) % L25519 := by unfold sMA; exact leS_modL _
theorem below_sMA (a b c : List (BitVec 8)) : sBelow (sMA a b c) = true := by
  unfold sBelow
  rw [leS_sMA]
  exact decide_eq_true (Nat.mod_lt _ L_pos)
theorem sMA_below_ev (a b c : List (BitVec 8)) : Ev Try.prog (.call 17 [.agg (.a8 (sMA a b c))] []) (.val (.c (.val (.bool true))) []) := by
  rw [← below_sMA a b c]; exact sBelow_ev _ (sMA_len a b c)
theorem leS_rB (n : List (BitVec 64)) : leS (rB n) 32 = wV n := by
  unfold rB
  rw [leS_toB _ _ (Nat.le_refl _), Nat.mod_eq_of_lt]
  exact wV_lt n
end Go.Proofs.Ytcgncafhonlmlaa
namespace Go.Proofs.Ytcgncafhonlmlaa
open Go.RowKit
def sgAns2 (ta : List (BitVec 8)) (b : List (BitVec 8)) : List (BitVec 8) := sMod (sha512 (ta ++ b))
set_option maxRecDepth 100000 in
set_option maxHeartbeats 2000000 in
theorem sgAns2_ev (a : List (BitVec 8)) (oa : Nat) (na : Nat) (ca : Nat) (b : List (BitVec 8)) (nb : Nat) (cb : Nat) (ha : oa + na ≤ a.length) (hna : na ≤ 1099511627) (hb : b.length = nb) (hnb : nb ≤ 1099511627) : Ev Try.prog (.call 25 [.c (.sl 0 0 2 2 1)] [.row false (.ac [.sl 1 oa na ca 1, .sl 2 0 nb cb 1]), .row false (.a8 (a)), .row false (.a8 (b))]) (.val (.agg (.a8 (sgAns2 (cut a oa na) b))) [.row false (.ac [.sl 1 oa na ca 1, .sl 2 0 nb cb 1]), .row false (.a8 (a)), .row false (.a8 (b))]) := by
  have hP : Hid (sgAns2 (cut a oa na) b = sMod (sha512 ((cut a oa na) ++ b))) := ⟨rfl⟩
  have hta : (cut a oa na).length = na := by rw [cut_length]; omega
  subst hb
  try simp only [hta] at hP
  refine c_call Try.func25 rfl Try.ntmps25 rfl LEN_ ?_
  refine S_ ?_
  refine c_region ?_
  refine s_memN (m_alloc al_22 LEN_) APP_ rfl ?_
  refine s_nil ?_
  refine S_ ?_
  refine c_region ?_
  refine s_val (v_assignC rfl) rfl ?_
  refine s_nil ?_
  refine S_ ?_
  refine c_region ?_
  refine s_val (v_moveC rfl) rfl ?_
  refine s_val (v_lenS rfl Try.underlying75) rfl ?_
  refine s_val (v_moveC rfl) rfl ?_
  refine s_nil ?_
  refine Q_ ?_
  refine c_peel ?_
  refine S_ ?_
  refine c_region ?_
  refine s_val (v_lssN (a := 0) (b := 2) rfl rfl) rfl ?_
  refine s_nil ?_
  refine S_ ?_
  refine c_region ?_
  refine s_val (v_idxS1 (j := 0) rfl rfl Try.underlying75 sz_23 (by omega)) rfl ?_
  refine s_val (v_load rfl rfl row_23 LT_ rfl) rfl ?_
  refine s_val (v_assignC rfl) rfl ?_
  refine s_nil ?_
  refine S_ ?_
  refine c_region ?_
  refine s_val (v_moveC rfl) rfl ?_
  refine s_val (v_moveC rfl) rfl ?_
  refine s_memN (m_appN8c rfl rfl rfl Try.underlying23 Try.underlying23 el_5 LE_ (by omega) LEN_) APP_ rfl ?_
  refine s_val (v_assignC rfl) rfl ?_
  refine s_nil ?_
  refine S_ ?_
  refine c_region ?_
  refine s_val (v_addN (a := 0) (b := 1) rfl rfl (by omega)) rfl ?_
  refine s_val (v_moveC rfl) rfl ?_
  refine s_nil ?_
  show WC _ _ _ _ _
  refine Q_ ?_
  refine c_peel ?_
  refine S_ ?_
  refine c_region ?_
  refine s_val (v_lssN (a := 1) (b := 2) rfl rfl) rfl ?_
  refine s_nil ?_
  refine S_ ?_
  refine c_region ?_
  refine s_val (v_idxS1 (j := 1) rfl rfl Try.underlying75 sz_23 (by omega)) rfl ?_
  refine s_val (v_load rfl rfl row_23 LT_ rfl) rfl ?_
  refine s_val (v_assignC rfl) rfl ?_
  refine s_nil ?_
  refine S_ ?_
  refine c_region ?_
  refine s_val (v_moveC rfl) rfl ?_
  refine s_val (v_moveC rfl) rfl ?_
  refine s_app8 rfl rfl rfl rfl Try.underlying23 Try.underlying23 el_5 EQL_ EQL_ (by omega) LEN_ KILL_ rfl ?_
  refine s_val (v_assignC rfl) rfl ?_
  refine s_nil ?_
  refine S_ ?_
  refine c_region ?_
  refine s_val (v_addN (a := 1) (b := 1) rfl rfl (by omega)) rfl ?_
  refine s_val (v_moveC rfl) rfl ?_
  refine s_nil ?_
  show WC _ _ _ _ _
  refine Q_ ?_
  refine c_peel ?_
  refine S_ ?_
  refine c_region ?_
  refine s_val (v_lssN (a := 2) (b := 2) rfl rfl) rfl ?_
  refine s_nil ?_
  have hQ1 : (sha512 ((cut a oa na) ++ b)).length = 64 := LQ_
  refine S_ ?_
  refine c_region ?_
  refine s_val (v_moveC rfl) rfl ?_
  refine s_evN (e_callR (bs := [5]) (sha512_evS ((cut a oa na) ++ b) (na + b.length) (na + b.length) HYP_ HYP_) ok_49 (by kernel_rfl) (by kernel_rfl) rfl VAL_) APP_ rfl ?_
  refine s_memN (m_alloc al_25 LEN_) APP_ rfl ?_
  refine s_storeR rfl rfl rfl rfl sz_25 EQ_ EQ_ SET_ ?_
  refine s_nil ?_
  have hQ2 : (sMod (sha512 ((cut a oa na) ++ b))).length = 32 := LQ_
  refine S_ ?_
  refine c_region ?_
  refine s_val (v_slA1 (l := 0) (h := 64) (len := 64) (cp := 64) rfl Try.underlying25 sz_5 rfl rfl rfl (by omega) (by omega) FIT_ rfl rfl) rfl ?_
  refine s_evN (e_callR (bs := [6]) (sMod_ev (sha512 ((cut a oa na) ++ b)) 64 64 HYP_ HYP_) ok_51 (by kernel_rfl) (by kernel_rfl) rfl VAL_) APP_ rfl ?_
  refine s_val (v_moveT rfl) rfl ?_
  refine s_val (v_extract rfl rfl) rfl ?_
  refine s_val (v_extract rfl rfl) rfl ?_
  refine s_memN (m_alloc al_22 LEN_) APP_ rfl ?_
  refine s_storeR rfl rfl rfl rfl sz_22 EQ_ EQ_ SET_ ?_
  refine s_val (v_assignC rfl) rfl ?_
  refine s_nil ?_
  refine S_ ?_
  refine c_region ?_
  refine s_val (v_loadR rfl rfl row_22 sz_22 EQ_ (by decide)) rfl ?_
  refine s_storeR rfl rfl rfl rfl sz_22 EQ_ EQ_ SET_ ?_
  refine s_nil ?_
  refine S_ ?_
  rw [hP.out]
  exact k_1 (r_row rfl rfl row_22 sz_22 EQ_ (by decide)) (by first | kernel_rfl | rfl)
@[simp] theorem sgAns2_len (ta : List (BitVec 8)) (b : List (BitVec 8)) : (sgAns2 ta b).length = 32 := by
  unfold sgAns2
  first | (simp [*]; done) | (simp [*]; omega)
attribute [irreducible] sgAns2
def sgAns3 (a : List (BitVec 8)) (b : List (BitVec 8)) (c : List (BitVec 8)) : List (BitVec 8) := sMod (sha512 ((a ++ b) ++ c))
set_option maxRecDepth 100000 in
set_option maxHeartbeats 2000000 in
theorem sgAns3_ev (a : List (BitVec 8)) (na : Nat) (ca : Nat) (b : List (BitVec 8)) (nb : Nat) (cb : Nat) (c : List (BitVec 8)) (nc : Nat) (cc : Nat) (ha : a.length = na) (hna : na ≤ 1099511627) (hb : b.length = nb) (hnb : nb ≤ 1099511627) (hc : c.length = nc) (hnc : nc ≤ 1099511627) : Ev Try.prog (.call 25 [.c (.sl 0 0 3 3 1)] [.row false (.ac [.sl 1 0 na ca 1, .sl 2 0 nb cb 1, .sl 3 0 nc cc 1]), .row false (.a8 (a)), .row false (.a8 (b)), .row false (.a8 (c))]) (.val (.agg (.a8 (sgAns3 a b c))) [.row false (.ac [.sl 1 0 na ca 1, .sl 2 0 nb cb 1, .sl 3 0 nc cc 1]), .row false (.a8 (a)), .row false (.a8 (b)), .row false (.a8 (c))]) := by
  have hP : Hid (sgAns3 a b c = sMod (sha512 ((a ++ b) ++ c))) := ⟨rfl⟩
  subst ha
  subst hb
  subst hc
  refine c_call Try.func25 rfl Try.ntmps25 rfl LEN_ ?_
  refine S_ ?_
  refine c_region ?_
  refine s_memN (m_alloc al_22 LEN_) APP_ rfl ?_
  refine s_nil ?_
  refine S_ ?_
  refine c_region ?_
  refine s_val (v_assignC rfl) rfl ?_
  refine s_nil ?_
  refine S_ ?_
  refine c_region ?_
  refine s_val (v_moveC rfl) rfl ?_
  refine s_val (v_lenS rfl Try.underlying75) rfl ?_
  refine s_val (v_moveC rfl) rfl ?_
  refine s_nil ?_
  refine Q_ ?_
  refine c_peel ?_
  refine S_ ?_
  refine c_region ?_
  refine s_val (v_lssN (a := 0) (b := 3) rfl rfl) rfl ?_
  refine s_nil ?_
  refine S_ ?_
  refine c_region ?_
  refine s_val (v_idxS1 (j := 0) rfl rfl Try.underlying75 sz_23 (by omega)) rfl ?_
  refine s_val (v_load rfl rfl row_23 LT_ rfl) rfl ?_
  refine s_val (v_assignC rfl) rfl ?_
  refine s_nil ?_
  refine S_ ?_
  refine c_region ?_
  refine s_val (v_moveC rfl) rfl ?_
  refine s_val (v_moveC rfl) rfl ?_
  refine s_memN (m_appN8 rfl rfl rfl Try.underlying23 Try.underlying23 el_5 EQL_ (by omega) LEN_) APP_ rfl ?_
  refine s_val (v_assignC rfl) rfl ?_
  refine s_nil ?_
  refine S_ ?_
  refine c_region ?_
  refine s_val (v_addN (a := 0) (b := 1) rfl rfl (by omega)) rfl ?_
  refine s_val (v_moveC rfl) rfl ?_
  refine s_nil ?_
  show WC _ _ _ _ _
  refine Q_ ?_
  refine c_peel ?_
  refine S_ ?_
  refine c_region ?_
  refine s_val (v_lssN (a := 1) (b := 3) rfl rfl) rfl ?_
  refine s_nil ?_
  refine S_ ?_
  refine c_region ?_
  refine s_val (v_idxS1 (j := 1) rfl rfl Try.underlying75 sz_23 (by omega)) rfl ?_
  refine s_val (v_load rfl rfl row_23 LT_ rfl) rfl ?_
  refine s_val (v_assignC rfl) rfl ?_
  refine s_nil ?_
  refine S_ ?_
  refine c_region ?_
  refine s_val (v_moveC rfl) rfl ?_
  refine s_val (v_moveC rfl) rfl ?_
  refine s_app8 rfl rfl rfl rfl Try.underlying23 Try.underlying23 el_5 EQL_ EQL_ (by omega) LEN_ KILL_ rfl ?_
  refine s_val (v_assignC rfl) rfl ?_
  refine s_nil ?_
  refine S_ ?_
  refine c_region ?_
  refine s_val (v_addN (a := 1) (b := 1) rfl rfl (by omega)) rfl ?_
  refine s_val (v_moveC rfl) rfl ?_
  refine s_nil ?_
  show WC _ _ _ _ _
  refine Q_ ?_
  refine c_peel ?_
  refine S_ ?_
  refine c_region ?_
  refine s_val (v_lssN (a := 2) (b := 3) rfl rfl) rfl ?_
  refine s_nil ?_
  refine S_ ?_
  refine c_region ?_
  refine s_val (v_idxS1 (j := 2) rfl rfl Try.underlying75 sz_23 (by omega)) rfl ?_
  refine s_val (v_load rfl rfl row_23 LT_ rfl) rfl ?_
  refine s_val (v_assignC rfl) rfl ?_
  refine s_nil ?_
  refine S_ ?_
  refine c_region ?_
  refine s_val (v_moveC rfl) rfl ?_
  refine s_val (v_moveC rfl) rfl ?_
  refine s_app8 rfl rfl rfl rfl Try.underlying23 Try.underlying23 el_5 EQL_ EQL_ (by omega) LEN_ KILL_ rfl ?_
  refine s_val (v_assignC rfl) rfl ?_
  refine s_nil ?_
  refine S_ ?_
  refine c_region ?_
  refine s_val (v_addN (a := 2) (b := 1) rfl rfl (by omega)) rfl ?_
  refine s_val (v_moveC rfl) rfl ?_
  refine s_nil ?_
  show WC _ _ _ _ _
  refine Q_ ?_
  refine c_peel ?_
  refine S_ ?_
  refine c_region ?_
  refine s_val (v_lssN (a := 3) (b := 3) rfl rfl) rfl ?_
  refine s_nil ?_
  have hQ1 : (sha512 ((a ++ b) ++ c)).length = 64 := LQ_
  refine S_ ?_
  refine c_region ?_
  refine s_val (v_moveC rfl) rfl ?_
  refine s_evN (e_callR (bs := [7]) (sha512_evS ((a ++ b) ++ c) ((a.length + b.length) + c.length) ((a.length + b.length) + c.length) HYP_ HYP_) ok_49 (by kernel_rfl) (by kernel_rfl) rfl VAL_) APP_ rfl ?_
  refine s_memN (m_alloc al_25 LEN_) APP_ rfl ?_
  refine s_storeR rfl rfl rfl rfl sz_25 EQ_ EQ_ SET_ ?_
  refine s_nil ?_
  have hQ2 : (sMod (sha512 ((a ++ b) ++ c))).length = 32 := LQ_
  refine S_ ?_
  refine c_region ?_
  refine s_val (v_slA1 (l := 0) (h := 64) (len := 64) (cp := 64) rfl Try.underlying25 sz_5 rfl rfl rfl (by omega) (by omega) FIT_ rfl rfl) rfl ?_
  refine s_evN (e_callR (bs := [8]) (sMod_ev (sha512 ((a ++ b) ++ c)) 64 64 HYP_ HYP_) ok_51 (by kernel_rfl) (by kernel_rfl) rfl VAL_) APP_ rfl ?_
  refine s_val (v_moveT rfl) rfl ?_
  refine s_val (v_extract rfl rfl) rfl ?_
  refine s_val (v_extract rfl rfl) rfl ?_
  refine s_memN (m_alloc al_22 LEN_) APP_ rfl ?_
  refine s_storeR rfl rfl rfl rfl sz_22 EQ_ EQ_ SET_ ?_
  refine s_val (v_assignC rfl) rfl ?_
  refine s_nil ?_
  refine S_ ?_
  refine c_region ?_
  refine s_val (v_loadR rfl rfl row_22 sz_22 EQ_ (by decide)) rfl ?_
  refine s_storeR rfl rfl rfl rfl sz_22 EQ_ EQ_ SET_ ?_
  refine s_nil ?_
  refine S_ ?_
  rw [hP.out]
  exact k_1 (r_row rfl rfl row_22 sz_22 EQ_ (by decide)) (by first | kernel_rfl | rfl)
@[simp] theorem sgAns3_len (a : List (BitVec 8)) (b : List (BitVec 8)) (c : List (BitVec 8)) : (sgAns3 a b c).length = 32 := by
  unfold sgAns3
  first | (simp [*]; done) | (simp [*]; omega)
attribute [irreducible] sgAns3
end Go.Proofs.Ytcgncafhonlmlaa
namespace Go.Proofs.Ytcgncafhonlmlaa
open Go.RowKit
def sgPub (seed : List (BitVec 8)) : List (BitVec 8) := enc (oB (sgHalf0 seed))
set_option maxRecDepth 100000 in
set_option maxHeartbeats 2000000 in
theorem sgPub_ev (seed : List (BitVec 8)) (hseed : seed.length = 32) : Ev Try.prog (.call 11 [.agg (.a8 (seed))] []) (.val (.agg (.a8 (sgPub seed))) []) := by
  have hP : Hid (sgPub seed = enc (oB (sgHalf0 seed))) := ⟨rfl⟩
  refine c_call Try.func11 rfl Try.ntmps11 rfl LEN_ ?_
  refine S_ ?_
  refine c_region ?_
  refine s_memN (m_box BX_ LEN_) APP_ rfl ?_
  refine s_memN (m_alloc al_22 LEN_) APP_ rfl ?_
  refine s_nil ?_
  have hQ1 : (sgHalf1 seed).length = 64 := LQ_
  have hQ2 : (sgHalf0 seed).length = 32 := LQ_
  refine S_ ?_
  refine c_region ?_
  refine s_val (v_loadR rfl rfl row_22 sz_22 EQ_ (by decide)) rfl ?_
  refine s_evN (e_callR (bs := []) (sgHalf_ev seed HYP_) ok_24 (by kernel_rfl) (by kernel_rfl) rfl VAL_) APP_ rfl ?_
  refine s_val (v_moveT rfl) rfl ?_
  refine s_val (v_extract rfl rfl) rfl ?_
  refine s_val (v_extract rfl rfl) rfl ?_
  refine s_memN (m_alloc al_22 LEN_) APP_ rfl ?_
  refine s_storeR rfl rfl rfl rfl sz_22 EQ_ EQ_ SET_ ?_
  refine s_val (v_assignC rfl) rfl ?_
  refine s_nil ?_
  have hQ3 : (enc (oB (sgHalf0 seed))).length = 32 := LQ_
  refine S_ ?_
  refine c_region ?_
  refine s_val (v_loadR rfl rfl row_22 sz_22 EQ_ (by decide)) rfl ?_
  refine s_evN (e_callR (bs := []) (bsE_ev (sgHalf0 seed) HYP_) ok_22 (by kernel_rfl) (by kernel_rfl) rfl VAL_) APP_ rfl ?_
  refine s_storeR rfl rfl rfl rfl sz_22 EQ_ EQ_ SET_ ?_
  refine s_nil ?_
  refine S_ ?_
  rw [hP.out]
  exact k_1 (r_row rfl rfl row_22 sz_22 EQ_ (by decide)) (by first | kernel_rfl | rfl)
@[simp] theorem sgPub_len (seed : List (BitVec 8)) (hseed : seed.length = 32) : (sgPub seed).length = 32 := by
  unfold sgPub
  first | (simp [*]; done) | (simp [*]; omega)
attribute [irreducible] sgPub
def sgSign0 (seed : List (BitVec 8)) (text : List (BitVec 8)) : List (BitVec 8) := (enc (oB (sgAns2 (cut (sgHalf1 seed) 32 32) text))) ++ (sMA (sgAns3 (enc (oB (sgAns2 (cut (sgHalf1 seed) 32 32) text))) (enc (oB (sgHalf0 seed))) text) (sgHalf0 seed) (sgAns2 (cut (sgHalf1 seed) 32 32) text))
set_option maxRecDepth 100000 in
set_option maxHeartbeats 2000000 in
theorem sgSign_ev (seed : List (BitVec 8)) (text : List (BitVec 8)) (tn : Nat) (tcap : Nat) (hseed : seed.length = 32) (htext : text.length = tn) (htn : tn ≤ 1099511627) (hT : tn ≤ 65536) : Ev Try.prog (.call 10 [.agg (.a8 (seed)), .c (.sl 0 0 tn tcap 1)] [.row false (.a8 (text))]) (.val (.tup [.agg (.a8 (sgSign0 seed text)), .c (.val (.int .i64 ((0 : Nat) : Int)))]) [.row false (.a8 (text))]) := by
  have hP_sgSign0 : Hid (sgSign0 seed text = (enc (oB (sgAns2 (cut (sgHalf1 seed) 32 32) text))) ++ (sMA (sgAns3 (enc (oB (sgAns2 (cut (sgHalf1 seed) 32 32) text))) (enc (oB (sgHalf0 seed))) text) (sgHalf0 seed) (sgAns2 (cut (sgHalf1 seed) 32 32) text))) := ⟨rfl⟩
  subst htext
  refine c_call Try.func10 rfl Try.ntmps10 rfl LEN_ ?_
  refine S_ ?_
  refine c_region ?_
  refine s_memN (m_box BX_ LEN_) APP_ rfl ?_
  refine s_memN (m_alloc al_25 LEN_) APP_ rfl ?_
  refine s_val (v_assignC rfl) rfl ?_
  refine s_nil ?_
  refine S_ ?_
  refine c_region ?_
  refine s_val (v_moveC rfl) rfl ?_
  refine s_val (v_lenS rfl Try.underlying23) rfl ?_
  refine s_val (v_gtrN (b := 65536) rfl rfl) rfl ?_
  refine s_nil ?_
  have hQ1 : (sgHalf1 seed).length = 64 := LQ_
  have hQ2 : (sgHalf0 seed).length = 32 := LQ_
  refine S_ ?_
  refine c_region ?_
  refine s_val (v_loadR rfl rfl row_22 sz_22 EQ_ (by decide)) rfl ?_
  refine s_evN (e_callR (bs := []) (sgHalf_ev seed HYP_) ok_24 (by kernel_rfl) (by kernel_rfl) rfl VAL_) APP_ rfl ?_
  refine s_val (v_moveT rfl) rfl ?_
  refine s_val (v_extract rfl rfl) rfl ?_
  refine s_val (v_extract rfl rfl) rfl ?_
  refine s_memN (m_alloc al_22 LEN_) APP_ rfl ?_
  refine s_storeR rfl rfl rfl rfl sz_22 EQ_ EQ_ SET_ ?_
  refine s_val (v_assignC rfl) rfl ?_
  refine s_nil ?_
  have hQ3 : (enc (oB (sgHalf0 seed))).length = 32 := LQ_
  refine S_ ?_
  refine c_region ?_
  refine s_val (v_loadR rfl rfl row_22 sz_22 EQ_ (by decide)) rfl ?_
  refine s_evN (e_callR (bs := []) (bsE_ev (sgHalf0 seed) HYP_) ok_22 (by kernel_rfl) (by kernel_rfl) rfl VAL_) APP_ rfl ?_
  refine s_memN (m_alloc al_22 LEN_) APP_ rfl ?_
  refine s_storeR rfl rfl rfl rfl sz_22 EQ_ EQ_ SET_ ?_
  refine s_nil ?_
  have hQ4 : (sgAns2 (cut (sgHalf1 seed) 32 32) text).length = 32 := LQ_
  refine S_ ?_
  refine c_region ?_
  refine s_val (v_moveC rfl) rfl ?_
  refine s_val (v_moveC rfl) rfl ?_
  refine s_memN (m_bsc Try.underlying75 el_23 (rep_23 _) rfl CS_ (by decide) (by decide) LEN_) APP_ rfl ?_
  refine s_evN (e_callR (bs := [6,3,0]) (sgAns2_ev (sgHalf1 seed) 32 32 32 text text.length tcap HYP_ HYP_ HYP_ HYP_) ok_25 (by kernel_rfl) (by kernel_rfl) rfl VAL_) APP_ rfl ?_
  refine s_memN (m_alloc al_22 LEN_) APP_ rfl ?_
  refine s_storeR rfl rfl rfl rfl sz_22 EQ_ EQ_ SET_ ?_
  refine s_nil ?_
  have hQ5 : (enc (oB (sgAns2 (cut (sgHalf1 seed) 32 32) text))).length = 32 := LQ_
  refine S_ ?_
  refine c_region ?_
  refine s_val (v_loadR rfl rfl row_22 sz_22 EQ_ (by decide)) rfl ?_
  refine s_evN (e_callR (bs := []) (bsE_ev (sgAns2 (cut (sgHalf1 seed) 32 32) text) HYP_) ok_22 (by kernel_rfl) (by kernel_rfl) rfl VAL_) APP_ rfl ?_
  refine s_memN (m_alloc al_22 LEN_) APP_ rfl ?_
  refine s_storeR rfl rfl rfl rfl sz_22 EQ_ EQ_ SET_ ?_
  refine s_nil ?_
  have hQ6 : (sgAns3 (enc (oB (sgAns2 (cut (sgHalf1 seed) 32 32) text))) (enc (oB (sgHalf0 seed))) text).length = 32 := LQ_
  have hQ7 : (sMA (sgAns3 (enc (oB (sgAns2 (cut (sgHalf1 seed) 32 32) text))) (enc (oB (sgHalf0 seed))) text) (sgHalf0 seed) (sgAns2 (cut (sgHalf1 seed) 32 32) text)).length = 32 := LQ_
  refine S_ ?_
  refine c_draw 9 mixed (by kernel_rfl) rfl rfl rfl ?_
  refine h_val (v_slA1 (l := 0) (h := 32) (len := 32) (cp := 32) rfl Try.underlying22 sz_5 rfl rfl rfl (by omega) (by omega) FIT_ rfl rfl) rfl ?_
  refine h_val (v_slA1 (l := 0) (h := 32) (len := 32) (cp := 32) rfl Try.underlying22 sz_5 rfl rfl rfl (by omega) (by omega) FIT_ rfl rfl) rfl ?_
  refine h_val (v_moveC rfl) rfl ?_
  refine h_memN (m_bsc Try.underlying75 el_23 (rep_23 _) rfl CS_ (by decide) (by decide) LEN_) APP_ rfl ?_
  refine h_evN (e_callR (bs := [9,8,5,0]) (sgAns3_ev (enc (oB (sgAns2 (cut (sgHalf1 seed) 32 32) text))) 32 32 (enc (oB (sgHalf0 seed))) 32 32 text text.length tcap HYP_ HYP_ HYP_ HYP_ HYP_ HYP_) ok_25 (by kernel_rfl) (by kernel_rfl) rfl VAL_) APP_ rfl ?_
  refine h_val (v_loadR rfl rfl row_22 sz_22 EQ_ (by decide)) rfl ?_
  refine h_val (v_loadR rfl rfl row_22 sz_22 EQ_ (by decide)) rfl ?_
  refine h_evN (e_callR (bs := []) (sMA_ev (sgAns3 (enc (oB (sgAns2 (cut (sgHalf1 seed) 32 32) text))) (enc (oB (sgHalf0 seed))) text) (sgHalf0 seed) (sgAns2 (cut (sgHalf1 seed) 32 32) text) HYP_ HYP_ HYP_) ok_20 (by kernel_rfl) (by kernel_rfl) rfl VAL_) APP_ rfl ?_
  refine h_memN (m_alloc al_22 LEN_) APP_ rfl ?_
  refine h_nil ?_
  refine s_storeR rfl rfl rfl rfl sz_22 EQ_ EQ_ SET_ ?_
  refine s_nil ?_
  refine S_ ?_
  refine c_draw 4 mixed (by kernel_rfl) rfl rfl rfl ?_
  refine h_memN (m_bs0 Try.underlying23 el_5) APP_ rfl ?_
  refine h_val (v_slA1 (l := 0) (h := 32) (len := 32) (cp := 32) rfl Try.underlying22 sz_5 rfl rfl rfl (by omega) (by omega) FIT_ rfl rfl) rfl ?_
  refine h_memN (m_appE8 rfl rfl rfl Try.underlying23 Try.underlying23 el_5 EQL_ (by omega) LEN_) APP_ rfl ?_
  refine h_val (v_slA1 (l := 0) (h := 32) (len := 32) (cp := 32) rfl Try.underlying22 sz_5 rfl rfl rfl (by omega) (by omega) FIT_ rfl rfl) rfl ?_
  refine h_nil ?_
  refine s_app8 rfl rfl rfl rfl Try.underlying23 Try.underlying23 el_5 EQL_ EQL_ (by omega) LEN_ KILL_ rfl ?_
  refine s_val (v_arrP rfl Try.underlying25 (by omega) (by decide)) rfl ?_
  refine s_val (v_loadR rfl rfl row_25 sz_25 EQ_ (by decide)) rfl ?_
  refine s_storeR rfl rfl rfl rfl sz_25 EQ_ EQ_ SET_ ?_
  refine s_val (v_assignC rfl) rfl ?_
  refine s_nil ?_
  refine S_ ?_
  rw [hP_sgSign0.out]
  exact k_2 (r_row rfl rfl row_25 sz_25 EQ_ (by decide)) (by first | exact r_tmpC rfl | exact r_tmpA rfl) (by first | kernel_rfl | rfl)
@[simp] theorem sgSign0_len (seed : List (BitVec 8)) (text : List (BitVec 8)) (hseed : seed.length = 32) : (sgSign0 seed text).length = 64 := by
  unfold sgSign0
  first | (simp [*]; done) | (simp [*]; omega)
attribute [irreducible] sgSign0
def sgSignL0  : List (BitVec 8) := zer8 64
set_option maxRecDepth 100000 in
set_option maxHeartbeats 2000000 in
theorem sgSignL_ev (seed : List (BitVec 8)) (text : List (BitVec 8)) (tn : Nat) (tcap : Nat) (hseed : seed.length = 32) (htext : text.length = tn) (htn : tn ≤ 1099511627) (hT : 65536 < tn) : Ev Try.prog (.call 10 [.agg (.a8 (seed)), .c (.sl 0 0 tn tcap 1)] [.row false (.a8 (text))]) (.val (.tup [.agg (.a8 (sgSignL0)), .c (.val (.int .i64 ((2 : Nat) : Int)))]) [.row false (.a8 (text))]) := by
  have hP_sgSignL0 : Hid (sgSignL0 = zer8 64) := ⟨rfl⟩
  subst htext
  refine c_call Try.func10 rfl Try.ntmps10 rfl LEN_ ?_
  refine S_ ?_
  refine c_region ?_
  refine s_memN (m_box BX_ LEN_) APP_ rfl ?_
  refine s_memN (m_alloc al_25 LEN_) APP_ rfl ?_
  refine s_val (v_assignC rfl) rfl ?_
  refine s_nil ?_
  refine S_ ?_
  refine c_region ?_
  refine s_val (v_moveC rfl) rfl ?_
  refine s_val (v_lenS rfl Try.underlying23) rfl ?_
  refine s_val (v_gtrN (b := 65536) rfl rfl) rfl ?_
  refine s_nil ?_
  refine S_ ?_
  refine c_region ?_
  refine s_val (v_blf8 (l := (zer8 64)) za_25 Try.underlying25 sz_5 rfl rfl) rfl ?_
  refine s_storeR rfl rfl rfl rfl sz_25 EQ_ EQ_ SET_ ?_
  refine s_val (v_assignC rfl) rfl ?_
  refine s_nil ?_
  refine S_ ?_
  rw [hP_sgSignL0.out]
  exact k_2 (r_row rfl rfl row_25 sz_25 EQ_ (by decide)) (by first | exact r_tmpC rfl | exact r_tmpA rfl) (by first | kernel_rfl | rfl)
@[simp] theorem sgSignL0_len  : (sgSignL0).length = 64 := by
  unfold sgSignL0
  first | (simp [*]; done) | (simp [*]; omega)
attribute [irreducible] sgSignL0
end Go.Proofs.Ytcgncafhonlmlaa
namespace Go.Proofs.Ytcgncafhonlmlaa
open Go.RowKit
def eqY (b : List (BitVec 8)) : List (BitVec 8) := put b 31 ((nth b 31) &&& 127#8)
def eqX (b : List (BitVec 8)) : List (BitVec 8) := fMul (fSub (fMul (eqY b) (eqY b)) (fSmall 1#64)) (fInv (fAdd (fMul (fMul (fSub (fSmall 0#64) (fSmall 121665#64)) (fInv (fSmall 121666#64))) (fMul (eqY b) (eqY b))) (fSmall 1#64)))
end Go.Proofs.Ytcgncafhonlmlaa
namespace Go.Proofs.Ytcgncafhonlmlaa
open Go.RowKit
theorem unOk_tms (n p : List (BitVec 8)) (hp : p.length = 32) (h : unOk p = true) : unOk (cvTmsT0 n p) = true := by
  obtain ⟨P, rfl, _⟩ := unP_rep hp h
  rw [tms_enc]
  exact unOk_enc _
theorem sBelowV_ev (n : List (BitVec 8)) (v : Bool) (hn : n.length = 32) (h : sBelow n = v) : Ev Try.prog (.call 17 [.agg (.a8 n)] []) (.val (.c (.val (.bool v))) []) := by
  rw [← h]; exact sBelow_ev n hn
def vfy (pub text sig : List (BitVec 8)) : Bool := sBelow (cut sig 32 32) && (unOk pub && (unOk (cut sig 0 32) && decide (cvAddT0 (cut sig 0 32) (cvTmsT0 (sgAns3 (cut sig 0 32) pub text) pub) = enc (oB (cut sig 32 32)))))
end Go.Proofs.Ytcgncafhonlmlaa
