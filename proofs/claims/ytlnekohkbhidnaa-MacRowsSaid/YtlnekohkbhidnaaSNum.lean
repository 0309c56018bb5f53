/- sha.high, sha.number, sha.rounds256 (Drawn up by a program.) -/
import Derived.Test.YtlnekohkbhidnaaAvTy
namespace Go.Proofs.Ytlnekohkbhidnaa
open Go.RowKit
def shaHigh_L3_S (b : List (BitVec 8)) (o : Nat) (X1 : BitVec 64) (j3 : Nat) : BitVec 64 := (X1 <<< 8) ||| ((nth b (o + j3)).setWidth 64)
def shaHigh_L3 (b : List (BitVec 8)) (o : Nat) : Nat → BitVec 64
  | 0 => 0#64
  | j3 + 1 => shaHigh_L3_S b o (shaHigh_L3 b o j3) j3
def shaHigh (b : List (BitVec 8)) (o : Nat) (n : Nat) : BitVec 64 := (shaHigh_L3 b o n)
set_option maxRecDepth 100000 in
set_option maxHeartbeats 2000000 in
theorem shaHigh_ev (b : List (BitVec 8)) (o : Nat) (n : Nat) (cap : Nat) (hb : o + n ≤ b.length) (hn : n ≤ 8796093022208) : Ev Try.prog (.call 19 [.c (.sl 0 o n cap 1)] [.row false (.a8 (b))]) (.val (.c (.val (U64 (shaHigh b o n)))) [.row false (.a8 (b))]) := by
  have hP : Hid (shaHigh b o n = (shaHigh_L3 b o n)) := ⟨rfl⟩
  refine c_call Try.func19 rfl Try.ntmps19 rfl LEN_ ?_
  refine S_ ?_
  refine c_region ?_
  refine s_val (v_assignC rfl) rfl ?_
  refine s_nil ?_
  refine S_ ?_
  refine c_region ?_
  refine s_val (v_assignC rfl) rfl ?_
  refine s_nil ?_
  refine S_ ?_
  refine c_region ?_
  refine s_val (v_moveC rfl) rfl ?_
  refine s_val (v_lenS rfl Try.underlying22) rfl ?_
  refine s_val (v_moveC rfl) rfl ?_
  refine s_nil ?_
  refine S_ ?_
  refine c_loopC [3, 6, 7, 8] (fun (zz : Nat × BitVec 64) => ⟨19, keepT [3, 6, 7, 8] [.c (.val (U64 (zz.2))), .c (.sl 0 o n cap 1), .c (.val (.int .i64 (((n : Nat) : Int)))), .c (.val (.int .i64 (((zz.1 : Nat) : Int))))], [.row false (.a8 (b))]⟩) (fun j3 => (j3, shaHigh_L3 b o j3)) (n) (by kernel_rfl) ?_ ?_
  · intro j3 hj3
    try dsimp only
    rw [shaHigh_L3.eq_2, shaHigh_L3_S]
    generalize shaHigh_L3 b o j3 = X1 at *
    refine S_ ?_
    refine c_region ?_
    refine s_val (v_lssN rfl rfl) rfl ?_
    refine s_nil ?_
    refine S_ ?_
    refine c_region ?_
    refine s_val (v_idxSo rfl rfl Try.underlying22 sz_5 (by omega)) rfl ?_
    refine s_val (v_load8 rfl rfl row_5 LT_) rfl ?_
    refine s_val (v_assignC rfl) rfl ?_
    refine s_nil ?_
    refine S_ ?_
    refine c_region ?_
    refine s_val (v_moveC rfl) rfl ?_
    refine s_val (v_shl64n (j := 8) rfl rfl) rfl ?_
    refine s_val (v_moveC rfl) rfl ?_
    refine s_val (v_conv rfl Try.underlying5 Try.underlying42 (w8_64 _)) rfl ?_
    refine s_val (v_or64 rfl rfl) rfl ?_
    refine s_val (v_assignC rfl) rfl ?_
    refine s_nil ?_
    refine S_ ?_
    refine c_region ?_
    refine s_val (v_addN (b := 1) rfl rfl (by omega)) rfl ?_
    refine s_val (v_moveC rfl) rfl ?_
    refine s_nil ?_
    exact ⟨(j3 + 1, _), by kernel_rfl, rfl⟩
  · try dsimp only
    generalize shaHigh_L3 b o n = Y2 at *
    refine S_ ?_
    refine c_region ?_
    refine s_val (v_lssN rfl rfl) rfl ?_
    refine s_nil ?_
    refine S_ ?_
    refine c_region ?_
    refine s_val (v_moveC rfl) rfl ?_
    refine s_val (v_assignC rfl) rfl ?_
    refine s_nil ?_
    refine S_ ?_
    rw [hP.out]
    exact k_1 (by first | exact r_tmpC rfl | exact r_tmpA rfl) (by first | kernel_rfl | rfl)

attribute [irreducible] shaHigh

def shaNumber_L2_S (x : BitVec 64) (X1 : List (BitVec 8)) (j2 : Nat) : List (BitVec 8) := X1 ++ [(x >>> (8 * (7 - j2))).setWidth 8]
def shaNumber_L2 (b : List (BitVec 8)) (x : BitVec 64) : Nat → List (BitVec 8)
  | 0 => b
  | j2 + 1 => shaNumber_L2_S x (shaNumber_L2 b x j2) j2
@[simp] theorem shaNumber_L2_len (b : List (BitVec 8)) (x : BitVec 64) (j2 : Nat) : (shaNumber_L2 b x j2).length = b.length + j2 := by
  induction j2 with
  | zero => first | (simp [shaNumber_L2, *]; done) | (simp [shaNumber_L2, *]; omega)
  | succ j2 ih => rw [shaNumber_L2.eq_2, shaNumber_L2_S]; first | (simp [ih]; done) | (simp [ih]; omega) | (simp [*]; done) | (split <;> first | (simp [ih]; done) | (simp [ih]; omega) | (simp [*]; done))
def shaNumber (b : List (BitVec 8)) (x : BitVec 64) : List (BitVec 8) := (shaNumber_L2 b x 8)
set_option maxRecDepth 100000 in
set_option maxHeartbeats 2000000 in
theorem shaNumber_ev (b : List (BitVec 8)) (n : Nat) (cap : Nat) (x : BitVec 64) (hb : b.length = n) (hn : n ≤ 8796093022208) : Ev Try.prog (.call 23 [.c (.sl 0 0 n cap 1), .c (.val (U64 x))] [.row true (.a8 (b))]) (.val (.c (.sl 1 0 (n + 8) (n + 8) 1)) [.dead, .row true (.a8 (shaNumber b x))]) := by
  have hP : Hid (shaNumber b x = (shaNumber_L2 b x 8)) := ⟨rfl⟩
  try simp only [hb] at hP
  refine c_call Try.func23 rfl Try.ntmps23 rfl LEN_ ?_
  refine S_ ?_
  refine c_region ?_
  refine s_val (v_assignC rfl) rfl ?_
  refine s_nil ?_
  refine S_ ?_
  refine c_region ?_
  refine s_val (v_assignC rfl) rfl ?_
  refine s_nil ?_
  refine S_ ?_
  refine c_move 0 rfl rfl LEN_ rfl ?_
  refine S_ ?_
  refine c_loopC [0, 1, 5] (fun (zz : Nat × List (BitVec 8)) => ⟨19, keepT [0, 1, 5] [.c (.sl 1 0 (n + zz.1) (n + zz.1) 1), .c (.val (U64 (x))), .c (.val (.int .i64 (((7 : Nat) : Int) - ((zz.1 : Nat) : Int))))], [.dead, .row true (.a8 (zz.2))]⟩) (fun j2 => (j2, shaNumber_L2 b x j2)) (8) (by kernel_rfl) ?_ ?_
  · intro j2 hj2
    try dsimp only
    have hX1 : (shaNumber_L2 b x j2).length = n + j2 := by rw [shaNumber_L2_len b x _]; try omega
    rw [shaNumber_L2.eq_2, shaNumber_L2_S]
    try simp only [hb]
    generalize shaNumber_L2 b x j2 = X1 at *
    rw [show ((7 : Nat) : Int) - ((j2 : Nat) : Int) = ((7 - j2 : Nat) : Int) from by omega]
    refine S_ ?_
    refine c_region ?_
    refine s_val (v_moveC rfl) rfl ?_
    refine s_val (v_geqN (b := 0) rfl rfl) rfl ?_
    refine s_nil ?_
    refine S_ ?_
    refine c_region ?_
    refine s_val (v_moveC rfl) rfl ?_
    refine s_val (v_moveC rfl) rfl ?_
    refine s_val (v_moveC rfl) rfl ?_
    refine s_val (v_mulN (a := 8) rfl rfl (by omega)) rfl ?_
    refine s_val (v_shr64n rfl rfl) rfl ?_
    refine s_val (v_conv rfl Try.underlying42 Try.underlying5 (w64_8 _)) rfl ?_
    refine s_memN (m_bs8 (l := [_]) Try.underlying22 el_5 rfl rfl (by decide) (by decide) LEN_) APP_ rfl ?_
    refine s_app8 rfl rfl rfl rfl Try.underlying22 Try.underlying22 el_5 EQL_ EQL_ (by omega) LEN_ KILL_ rfl ?_
    refine s_val (v_assignC rfl) rfl ?_
    refine s_nil ?_
    refine S_ ?_
    refine c_region ?_
    refine s_val (v_moveC rfl) rfl ?_
    first
      | refine s_val (v_subN (b := 1) rfl rfl (by omega) (by omega)) rfl ?_
      | refine s_val (v_subI rfl rfl (by omega)) rfl ?_
    refine s_val (v_assignC rfl) rfl ?_
    refine s_nil ?_
    refine ⟨(j2 + 1, _), (by
      dsimp only
      rw [show ((7 : Nat) : Int) - ((j2 + 1 : Nat) : Int) = ((7 - j2 : Nat) : Int) - 1 from by omega]
      kernel_rfl), rfl⟩
  · try dsimp only
    have hY2 : (shaNumber_L2 b x 8).length = n + 8 := by rw [shaNumber_L2_len b x _]; try omega
    generalize shaNumber_L2 b x 8 = Y2 at *
    refine S_ ?_
    refine c_region ?_
    refine s_val (v_moveC rfl) rfl ?_
    refine s_val (v_geqI rfl rfl) rfl ?_
    refine s_nil ?_
    refine S_ ?_
    refine c_region ?_
    refine s_val (v_moveC rfl) rfl ?_
    refine s_val (v_assignC rfl) rfl ?_
    refine s_nil ?_
    refine S_ ?_
    rw [hP.out]
    exact k_1 (by first | exact r_tmpC rfl | exact r_tmpA rfl) (by first | kernel_rfl | rfl)

@[simp] theorem shaNumber_len (b : List (BitVec 8)) (x : BitVec 64) : (shaNumber b x).length = b.length + 8 := by
  unfold shaNumber
  first | (simp [shaNumber_L2_len, *]; done) | (simp [shaNumber_L2_len, *]; omega)

attribute [irreducible] shaNumber

def shaK256  : List (BitVec 32) := [1116352408#32, 1899447441#32, 3049323471#32, 3921009573#32, 961987163#32, 1508970993#32, 2453635748#32, 2870763221#32, 3624381080#32, 310598401#32, 607225278#32, 1426881987#32, 1925078388#32, 2162078206#32, 2614888103#32, 3248222580#32, 3835390401#32, 4022224774#32, 264347078#32, 604807628#32, 770255983#32, 1249150122#32, 1555081692#32, 1996064986#32, 2554220882#32, 2821834349#32, 2952996808#32, 3210313671#32, 3336571891#32, 3584528711#32, 113926993#32, 338241895#32, 666307205#32, 773529912#32, 1294757372#32, 1396182291#32, 1695183700#32, 1986661051#32, 2177026350#32, 2456956037#32, 2730485921#32, 2820302411#32, 3259730800#32, 3345764771#32, 3516065817#32, 3600352804#32, 4094571909#32, 275423344#32, 430227734#32, 506948616#32, 659060556#32, 883997877#32, 958139571#32, 1322822218#32, 1537002063#32, 1747873779#32, 1955562222#32, 2024104815#32, 2227730452#32, 2361852424#32, 2428436474#32, 2756734187#32, 3204031479#32, 3329325298#32]
set_option maxRecDepth 100000 in
set_option maxHeartbeats 2000000 in
theorem shaK256_ev   : Ev Try.prog (.call 17 [] []) (.val (.c (.sl 0 0 64 64 1)) [.row true (.a32 (shaK256))]) := by
  have hP : Hid (shaK256 = [1116352408#32, 1899447441#32, 3049323471#32, 3921009573#32, 961987163#32, 1508970993#32, 2453635748#32, 2870763221#32, 3624381080#32, 310598401#32, 607225278#32, 1426881987#32, 1925078388#32, 2162078206#32, 2614888103#32, 3248222580#32, 3835390401#32, 4022224774#32, 264347078#32, 604807628#32, 770255983#32, 1249150122#32, 1555081692#32, 1996064986#32, 2554220882#32, 2821834349#32, 2952996808#32, 3210313671#32, 3336571891#32, 3584528711#32, 113926993#32, 338241895#32, 666307205#32, 773529912#32, 1294757372#32, 1396182291#32, 1695183700#32, 1986661051#32, 2177026350#32, 2456956037#32, 2730485921#32, 2820302411#32, 3259730800#32, 3345764771#32, 3516065817#32, 3600352804#32, 4094571909#32, 275423344#32, 430227734#32, 506948616#32, 659060556#32, 883997877#32, 958139571#32, 1322822218#32, 1537002063#32, 1747873779#32, 1955562222#32, 2024104815#32, 2227730452#32, 2361852424#32, 2428436474#32, 2756734187#32, 3204031479#32, 3329325298#32]) := ⟨rfl⟩
  refine c_call Try.func17 rfl Try.ntmps17 rfl LEN_ ?_
  refine S_ ?_
  refine c_region ?_
  refine s_val (v_assignC rfl) rfl ?_
  refine s_nil ?_
  refine S_ ?_
  refine c_region ?_
  refine s_memN (m_bs32 (l := [1116352408#32, 1899447441#32, 3049323471#32, 3921009573#32, 961987163#32, 1508970993#32, 2453635748#32, 2870763221#32, 3624381080#32, 310598401#32, 607225278#32, 1426881987#32, 1925078388#32, 2162078206#32, 2614888103#32, 3248222580#32, 3835390401#32, 4022224774#32, 264347078#32, 604807628#32, 770255983#32, 1249150122#32, 1555081692#32, 1996064986#32, 2554220882#32, 2821834349#32, 2952996808#32, 3210313671#32, 3336571891#32, 3584528711#32, 113926993#32, 338241895#32, 666307205#32, 773529912#32, 1294757372#32, 1396182291#32, 1695183700#32, 1986661051#32, 2177026350#32, 2456956037#32, 2730485921#32, 2820302411#32, 3259730800#32, 3345764771#32, 3516065817#32, 3600352804#32, 4094571909#32, 275423344#32, 430227734#32, 506948616#32, 659060556#32, 883997877#32, 958139571#32, 1322822218#32, 1537002063#32, 1747873779#32, 1955562222#32, 2024104815#32, 2227730452#32, 2361852424#32, 2428436474#32, 2756734187#32, 3204031479#32, 3329325298#32]) Try.underlying38 el_36 rfl rfl (by decide) (by decide) LEN_) APP_ rfl ?_
  refine s_val (v_assignC rfl) rfl ?_
  refine s_nil ?_
  refine S_ ?_
  rw [hP.out]
  exact k_1 (by first | exact r_tmpC rfl | exact r_tmpA rfl) (by first | kernel_rfl | rfl)

@[simp] theorem shaK256_len  : (shaK256).length = 64 := by
  unfold shaK256
  first | (simp [*]; done) | (simp [*]; omega)

attribute [irreducible] shaK256
end Go.Proofs.Ytlnekohkbhidnaa
