/- OnesCount64 answers how many digits of a number are one; how many digits of two numbers together. No conditions but those that the theorems name. -/
import Derived.Test.YtlhheknhkjcffaaDoorPGroupPartsx1
namespace Go.Proofs.YtlhheknhkjcffaaDoor.Pop
open Go
set_option linter.unusedVariables false
set_option linter.unusedSimpArgs false
/-! How many bits a number has: the sums of the library's OnesCount64, byte by byte. -/
theorem and_split (n x y : Nat) : x &&& y = 2 ^ n * (x / 2 ^ n &&& y / 2 ^ n) + (x % 2 ^ n &&& y % 2 ^ n) := by
  have h1 := Nat.and_div_two_pow (a := x) (b := y) (n := n)
  have h2 := Nat.and_mod_two_pow (a := x) (b := y) (n := n)
  rw [← h1, ← h2]
  exact (Nat.div_add_mod _ _).symm
theorem and_cat (a b c d : Nat) (hb : b < 256) (hd : d < 256) : (256 * a + b) &&& (256 * c + d) = 256 * (a &&& c) + (b &&& d) := by
  rw [and_split 8, show (2 : Nat) ^ 8 = 256 from rfl, show (256 * a + b) / 256 = a by omega, show (256 * c + d) / 256 = c by omega, show (256 * a + b) % 256 = b by omega, show (256 * c + d) % 256 = d by omega]
/-- A mask of so many bytes. -/
def M (c : Nat) : Nat → Nat
  | 0 => 0
  | n + 1 => 256 * M c n + c
def t1 (b : Nat) : Nat := (b / 2 &&& 0x55) + (b &&& 0x55)
def t2 (b : Nat) : Nat := (b / 4 &&& 0x33) + (b &&& 0x33)
def t3 (b : Nat) : Nat := (b / 16 + b) % 16
def s1 (n x : Nat) : Nat := (x / 2 &&& M 0x55 n) + (x &&& M 0x55 n)
def s2 (n x : Nat) : Nat := (x / 4 &&& M 0x33 n) + (x &&& M 0x33 n)
def s3 (n x : Nat) : Nat := (x / 16 + x) &&& M 0x0f n
theorem low1 : ∀ t : Fin 2, ∀ c : Fin 128, (128 * t.val + c.val) &&& 0x55 = c.val &&& 0x55 := by decide +kernel
theorem low2 : ∀ t : Fin 4, ∀ c : Fin 64, (64 * t.val + c.val) &&& 0x33 = c.val &&& 0x33 := by decide +kernel
theorem s1_succ (n x b : Nat) (hb : b < 256) : s1 (n + 1) (256 * x + b) = 256 * s1 n x + t1 b := by
  unfold s1 t1
  rw [M, show (256 * x + b) / 2 = 256 * (x / 2) + (128 * (x % 2) + b / 2) by omega, and_cat _ _ _ _ (by omega) (by decide), and_cat _ _ _ _ hb (by decide)]
  have := low1 ⟨x % 2, by omega⟩ ⟨b / 2, by omega⟩
  simp only at this
  rw [this]
  omega
theorem s2_succ (n x b : Nat) (hb : b < 256) : s2 (n + 1) (256 * x + b) = 256 * s2 n x + t2 b := by
  unfold s2 t2
  rw [M, show (256 * x + b) / 4 = 256 * (x / 4) + (64 * (x % 4) + b / 4) by omega, and_cat _ _ _ _ (by omega) (by decide), and_cat _ _ _ _ hb (by decide)]
  have := low2 ⟨x % 4, by omega⟩ ⟨b / 4, by omega⟩
  simp only at this
  rw [this]
  omega
theorem s3_succ (n x b : Nat) (hb : b < 256) (h : 16 * (x % 16) + b / 16 + b < 256) : s3 (n + 1) (256 * x + b) = 256 * s3 n x + t3 b := by
  unfold s3 t3
  rw [M, show (256 * x + b) / 16 + (256 * x + b) = 256 * (x / 16 + x) + (16 * (x % 16) + b / 16 + b) by omega, and_cat _ _ _ _ h (by decide)]
  congr 1
  rw [show (0x0f : Nat) = 2 ^ 4 - 1 from rfl, Nat.and_two_pow_sub_one_eq_mod]
  omega
theorem bytes_small : ∀ b : Fin 256, t1 b.val < 256 ∧ t2 (t1 b.val) < 256 ∧ t2 (t1 b.val) % 16 ≤ 4 ∧ t2 (t1 b.val) / 16 ≤ 4 := by decide +kernel
/-- The number of bits, one by one. -/
def pc : Nat → Nat → Nat
  | 0, _ => 0
  | n + 1, x => x % 2 + pc n (x / 2)
theorem byte_pc : ∀ b : Fin 256, t3 (t2 (t1 b.val)) = pc 8 b.val := by decide +kernel
def F (n x : Nat) : Nat := s3 n (s2 n (s1 n x))
theorem F_low (n x : Nat) : s2 n (s1 n x) % 16 ≤ 4 := by
  cases n with
  | zero => simp [s2, s1, M]
  | succ n =>
    have hx : x = 256 * (x / 256) + x % 256 := (Nat.div_add_mod _ _).symm
    have hb : x % 256 < 256 := Nat.mod_lt _ (by decide)
    obtain ⟨h1, h2, h3, h4⟩ := bytes_small ⟨x % 256, hb⟩
    simp only at h1 h2 h3 h4
    rw [hx, s1_succ n _ _ hb, s2_succ n _ _ h1]
    omega
theorem F_succ (n x : Nat) : F (n + 1) x = 256 * F n (x / 256) + pc 8 (x % 256) := by
  have hx : x = 256 * (x / 256) + x % 256 := (Nat.div_add_mod _ _).symm
  have hb : x % 256 < 256 := Nat.mod_lt _ (by decide)
  obtain ⟨h1, h2, h3, h4⟩ := bytes_small ⟨x % 256, hb⟩
  have h5 := byte_pc ⟨x % 256, hb⟩
  simp only at h1 h2 h3 h4 h5
  have h6 := F_low n (x / 256)
  unfold F
  conv => lhs; rw [hx]
  rw [s1_succ n _ _ hb, s2_succ n _ _ h1, s3_succ n _ _ h2 (by omega), h5]
theorem pc_le (n x : Nat) : pc n x ≤ n := by
  induction n generalizing x with
  | zero => simp [pc]
  | succ n ih => have := ih (x / 2); rw [pc]; omega
theorem pc_add (n m x : Nat) : pc (n + m) x = pc n x + pc m (x / 2 ^ n) := by
  induction n generalizing x with
  | zero => simp [pc]
  | succ n ih =>
    rw [show n + 1 + m = (n + m) + 1 by omega, pc, pc, ih, Nat.div_div_eq_div_mul, Nat.pow_succ, Nat.mul_comm 2]
    omega
theorem pc_mod (n x : Nat) : pc n (x % 2 ^ n) = pc n x := by
  induction n generalizing x with
  | zero => rfl
  | succ n ih =>
    rw [pc, pc, show x % 2 ^ (n + 1) % 2 = x % 2 by rw [Nat.pow_succ, Nat.mul_comm]; exact Nat.mod_mul_right_mod _ _ _, show x % 2 ^ (n + 1) / 2 = (x / 2) % 2 ^ n by rw [Nat.pow_succ, Nat.mul_comm]; exact Nat.mod_mul_right_div_self _ _ _, ih]
/-- The bytes' numbers together. -/
theorem pc64 (x : Nat) : ∃ p0 p1 p2 p3 p4 p5 p6 p7 : Nat, p0 ≤ 8 ∧ p1 ≤ 8 ∧ p2 ≤ 8 ∧ p3 ≤ 8 ∧ p4 ≤ 8 ∧ p5 ≤ 8 ∧ p6 ≤ 8 ∧ p7 ≤ 8 ∧ F 8 x = p0 + 256 * (p1 + 256 * (p2 + 256 * (p3 + 256 * (p4 + 256 * (p5 + 256 * (p6 + 256 * p7)))))) ∧ pc 64 x = p0 + p1 + p2 + p3 + p4 + p5 + p6 + p7 := by
  have e : ∀ y, pc 8 (y % 256) = pc 8 y := fun y => pc_mod 8 y
  refine ⟨_, _, _, _, _, _, _, _, pc_le 8 (x % 256), pc_le 8 (x / 256 % 256), pc_le 8 (x / 256 / 256 % 256), pc_le 8 (x / 256 / 256 / 256 % 256), pc_le 8 (x / 256 / 256 / 256 / 256 % 256), pc_le 8 (x / 256 / 256 / 256 / 256 / 256 % 256), pc_le 8 (x / 256 / 256 / 256 / 256 / 256 / 256 % 256), pc_le 8 (x / 256 / 256 / 256 / 256 / 256 / 256 / 256 % 256), ?_, ?_⟩
  · rw [F_succ, F_succ, F_succ, F_succ, F_succ, F_succ, F_succ, F_succ]
    simp only [F, s3, M, Nat.and_zero]
    omega
  · simp only [e]
    rw [show (64 : Nat) = 8 + 56 from rfl, pc_add 8 56, show (56 : Nat) = 8 + 48 from rfl, pc_add 8 48, show (48 : Nat) = 8 + 40 from rfl, pc_add 8 40, show (40 : Nat) = 8 + 32 from rfl, pc_add 8 32, show (32 : Nat) = 8 + 24 from rfl, pc_add 8 24, show (24 : Nat) = 8 + 16 from rfl, pc_add 8 16, show (16 : Nat) = 8 + 8 from rfl, pc_add 8 8]
    simp only [show (2 : Nat) ^ 8 = 256 from rfl]
    omega
theorem pc_bits (n : Nat) : ∀ x y z : Nat, (∀ i, i < n → (x.testBit i).toNat = (y.testBit i).toNat + (z.testBit i).toNat) → pc n x = pc n y + pc n z := by
  induction n with
  | zero => intro x y z _; rfl
  | succ n ih =>
    intro x y z h
    have h0 := h 0 (by omega)
    have hr := ih (x / 2) (y / 2) (z / 2) (fun i hi => by
      have := h (i + 1) (by omega)
      rwa [Nat.testBit_succ, Nat.testBit_succ, Nat.testBit_succ] at this)
    have e : ∀ v : Nat, (v.testBit 0).toNat = v % 2 := by
      intro v
      rw [Nat.testBit_zero]
      rcases Nat.mod_two_eq_zero_or_one v with h | h <;> simp [h]
    rw [e, e, e] at h0
    rw [pc, pc, pc, hr, h0]
    omega
/-- What of x is not in y. -/
def dif (x y : Nat) : Nat := x &&& (2 ^ 64 - (y + 1))
theorem dif_bit (x y i : Nat) (hy : y < 2 ^ 64) : (dif x y).testBit i = (x.testBit i && (decide (i < 64) && !y.testBit i)) := by
  unfold dif
  rw [Nat.testBit_and, Nat.testBit_two_pow_sub_succ hy]
theorem pc_or (x y : Nat) (hy : y < 2 ^ 64) : pc 64 (x ||| y) = pc 64 (dif x y) + pc 64 y := by
  refine pc_bits 64 _ _ _ fun i hi => ?_
  rw [Nat.testBit_or, dif_bit x y i hy]
  simp only [hi, decide_true, Bool.true_and]
  cases x.testBit i <;> cases y.testBit i <;> rfl
theorem pc_parts (x y : Nat) (hy : y < 2 ^ 64) : pc 64 x = pc 64 (x &&& y) + pc 64 (dif x y) := by
  refine pc_bits 64 _ _ _ fun i hi => ?_
  rw [Nat.testBit_and, dif_bit x y i hy]
  simp only [hi, decide_true, Bool.true_and]
  cases x.testBit i <;> cases y.testBit i <;> rfl
theorem wrap_u64 (n : Int) : IntKind.u64.wrap n = n % 18446744073709551616 := by simp [IntKind.wrap, IntKind.bits, IntKind.signed]
theorem bits_and (a b : Nat) (ha : a < 2 ^ 64) (hb : b < 2 ^ 64) : Go.bits .and .u64 (a : Int) (b : Int) = ((a &&& b : Nat) : Int) :=
  (Go.bits_nat .u64 64 (by decide) (fun n h0 h1 => by rw [wrap_u64]; omega) a b ha hb).1
theorem bits_or (a b : Nat) (ha : a < 2 ^ 64) (hb : b < 2 ^ 64) : Go.bits .or .u64 (a : Int) (b : Int) = ((a ||| b : Nat) : Int) :=
  (Go.bits_nat .u64 64 (by decide) (fun n h0 h1 => by rw [wrap_u64]; omega) a b ha hb).2
theorem bits_dif (a b : Nat) (ha : a < 2 ^ 64) (hb : b < 2 ^ 64) : Go.bits .andNot .u64 (a : Int) (b : Int) = ((dif a b : Nat) : Int) := by
  have e : (BitVec.ofInt 64 (a : Int) &&& ~~~ BitVec.ofInt 64 (b : Int)).toNat = dif a b := by
    rw [BitVec.toNat_and, BitVec.toNat_not, BitVec.ofInt_natCast, BitVec.ofInt_natCast, BitVec.toNat_ofNat, BitVec.toNat_ofNat, Nat.mod_eq_of_lt ha, Nat.mod_eq_of_lt hb]
    unfold dif
    congr 1
    omega
  have hlt : dif a b < 2 ^ 64 := Nat.and_lt_two_pow _ (by omega)
  show IntKind.u64.wrap (((BitVec.ofInt 64 (a : Int) &&& ~~~ BitVec.ofInt 64 (b : Int)).toNat : Nat) : Int) = _
  rw [e, wrap_u64]
  omega
theorem dif_lt (a b : Nat) (hb : b < 2 ^ 64) : dif a b < 2 ^ 64 := Nat.and_lt_two_pow _ (by omega)
theorem M55 : M 0x55 8 = 6148914691236517205 := by decide
theorem M33 : M 0x33 8 = 3689348814741910323 := by decide
theorem M0f : M 0x0f 8 = 1085102592571150095 := by decide
theorem s1_lt (x : Nat) (h : x < 2 ^ 64) : s1 8 x < 2 ^ 64 := by
  unfold s1
  rw [M55]
  have h1 : x / 2 &&& 6148914691236517205 ≤ 6148914691236517205 := Nat.and_le_right
  have h2 : x &&& 6148914691236517205 ≤ 6148914691236517205 := Nat.and_le_right
  omega
theorem s2_lt (x : Nat) : s2 8 x < 2 ^ 63 := by
  unfold s2
  rw [M33]
  have h1 : x / 4 &&& 3689348814741910323 ≤ 3689348814741910323 := Nat.and_le_right
  have h2 : x &&& 3689348814741910323 ≤ 3689348814741910323 := Nat.and_le_right
  omega
theorem bits_and63 (a b : Nat) (ha : a < 2 ^ 63) (hb : b < 2 ^ 63) : Go.bits .and .i64 (a : Int) (b : Int) = ((a &&& b : Nat) : Int) :=
  (Go.bits_nat .i64 63 (by decide) (fun n h0 h1 => by rw [IntKind.wrap_i64]; omega) a b ha hb).1
theorem wrapsum (V d : Nat) (e : Int) (he : e = (d : Int)) (h : V + V / d < 2 ^ 64) : IntKind.u64.wrap ((V : Int) + (V : Int) / e) = ((V + V / d : Nat) : Int) := by
  subst he
  rw [wrap_u64, ← Int.natCast_ediv, ← Int.natCast_add]
  generalize V + V / d = q at *
  omega
theorem stA (p0 p1 p2 p3 p4 p5 p6 p7 : Nat) (b0 : p0 ≤ 8) : (p0 + 256 * (p1 + 256 * (p2 + 256 * (p3 + 256 * (p4 + 256 * (p5 + 256 * (p6 + 256 * p7))))))) + (p0 + 256 * (p1 + 256 * (p2 + 256 * (p3 + 256 * (p4 + 256 * (p5 + 256 * (p6 + 256 * p7))))))) / 256 =
    (p0 + p1) + 256 * ((p1 + p2) + 256 * ((p2 + p3) + 256 * ((p3 + p4) + 256 * ((p4 + p5) + 256 * ((p5 + p6) + 256 * ((p6 + p7) + 256 * p7)))))) := by
  have e : (p0 + 256 * (p1 + 256 * (p2 + 256 * (p3 + 256 * (p4 + 256 * (p5 + 256 * (p6 + 256 * p7))))))) / 256 = p1 + 256 * (p2 + 256 * (p3 + 256 * (p4 + 256 * (p5 + 256 * (p6 + 256 * p7))))) := by
    generalize p1 + 256 * (p2 + 256 * (p3 + 256 * (p4 + 256 * (p5 + 256 * (p6 + 256 * p7))))) = R
    omega
  rw [e]
  omega
theorem stB (a0 a1 a2 a3 a4 a5 a6 a7 : Nat) (b0 : a0 ≤ 16) (b1 : a1 ≤ 16) : (a0 + 256 * (a1 + 256 * (a2 + 256 * (a3 + 256 * (a4 + 256 * (a5 + 256 * (a6 + 256 * a7))))))) + (a0 + 256 * (a1 + 256 * (a2 + 256 * (a3 + 256 * (a4 + 256 * (a5 + 256 * (a6 + 256 * a7))))))) / 65536 =
    (a0 + a2) + 256 * ((a1 + a3) + 256 * ((a2 + a4) + 256 * ((a3 + a5) + 256 * ((a4 + a6) + 256 * ((a5 + a7) + 256 * (a6 + 256 * a7)))))) := by
  have e : (a0 + 256 * (a1 + 256 * (a2 + 256 * (a3 + 256 * (a4 + 256 * (a5 + 256 * (a6 + 256 * a7))))))) / 65536 = a2 + 256 * (a3 + 256 * (a4 + 256 * (a5 + 256 * (a6 + 256 * a7)))) := by
    generalize a2 + 256 * (a3 + 256 * (a4 + 256 * (a5 + 256 * (a6 + 256 * a7)))) = R
    omega
  rw [e]
  omega
theorem stC (a0 a1 a2 a3 a4 a5 a6 a7 : Nat) (b0 : a0 ≤ 32) (b1 : a1 ≤ 32) (b2 : a2 ≤ 32) (b3 : a3 ≤ 32) : ∃ R, (a0 + 256 * (a1 + 256 * (a2 + 256 * (a3 + 256 * (a4 + 256 * (a5 + 256 * (a6 + 256 * a7))))))) + (a0 + 256 * (a1 + 256 * (a2 + 256 * (a3 + 256 * (a4 + 256 * (a5 + 256 * (a6 + 256 * a7))))))) / 4294967296 = (a0 + a4) + 256 * R := by
  have e : (a0 + 256 * (a1 + 256 * (a2 + 256 * (a3 + 256 * (a4 + 256 * (a5 + 256 * (a6 + 256 * a7))))))) / 4294967296 = a4 + 256 * (a5 + 256 * (a6 + 256 * a7)) := by
    generalize a4 + 256 * (a5 + 256 * (a6 + 256 * a7)) = R
    omega
  rw [e]
  generalize a1 + 256 * (a2 + 256 * (a3 + 256 * (a4 + 256 * (a5 + 256 * (a6 + 256 * a7))))) = R
  generalize a5 + 256 * (a6 + 256 * a7) = Q
  exact ⟨R + Q, by omega⟩
theorem stLt (a0 a1 a2 a3 a4 a5 a6 a7 : Nat) (b0 : a0 ≤ 32) (b1 : a1 ≤ 32) (b2 : a2 ≤ 32) (b3 : a3 ≤ 32) (b4 : a4 ≤ 32) (b5 : a5 ≤ 32) (b6 : a6 ≤ 32) (b7 : a7 ≤ 32) : a0 + 256 * (a1 + 256 * (a2 + 256 * (a3 + 256 * (a4 + 256 * (a5 + 256 * (a6 + 256 * a7)))))) < 2 ^ 62 := by
  omega
/-- The three last sums: all the bytes together. -/
theorem summed (v : Nat) (x : Nat) (h : ∃ p0 p1 p2 p3 p4 p5 p6 p7 : Nat, p0 ≤ 8 ∧ p1 ≤ 8 ∧ p2 ≤ 8 ∧ p3 ≤ 8 ∧ p4 ≤ 8 ∧ p5 ≤ 8 ∧ p6 ≤ 8 ∧ p7 ≤ 8 ∧ v = p0 + 256 * (p1 + 256 * (p2 + 256 * (p3 + 256 * (p4 + 256 * (p5 + 256 * (p6 + 256 * p7)))))) ∧ x = p0 + p1 + p2 + p3 + p4 + p5 + p6 + p7) :
    ∃ A B C R : Nat, A = v + v / 256 ∧ B = A + A / 65536 ∧ C = B + B / 4294967296 ∧ A < 2 ^ 62 ∧ B < 2 ^ 62 ∧ v < 2 ^ 62 ∧ C = x + 256 * R ∧ x ≤ 64 := by
  obtain ⟨p0, p1, p2, p3, p4, p5, p6, p7, b0, b1, b2, b3, b4, b5, b6, b7, rfl, rfl⟩ := h
  obtain ⟨R, hR⟩ := stC (p0 + p1 + (p2 + p3)) (p1 + p2 + (p3 + p4)) (p2 + p3 + (p4 + p5)) (p3 + p4 + (p5 + p6)) (p4 + p5 + (p6 + p7)) (p5 + p6 + p7) (p6 + p7) p7 (by omega) (by omega) (by omega) (by omega)
  refine ⟨_, _, _, R, (stA p0 p1 p2 p3 p4 p5 p6 p7 b0).symm, (stB (p0 + p1) (p1 + p2) (p2 + p3) (p3 + p4) (p4 + p5) (p5 + p6) (p6 + p7) p7 (by omega) (by omega)).symm, rfl, stLt _ _ _ _ _ _ _ _ (by omega) (by omega) (by omega) (by omega) (by omega) (by omega) (by omega) (by omega), stLt _ _ _ _ _ _ _ _ (by omega) (by omega) (by omega) (by omega) (by omega) (by omega) (by omega) (by omega), stLt _ _ _ _ _ _ _ _ (by omega) (by omega) (by omega) (by omega) (by omega) (by omega) (by omega) (by omega), ?_, by omega⟩
  rw [hR]
  omega
theorem mod128 (C : Nat) : (C &&& 127) = C % 128 := Nat.and_two_pow_sub_one_eq_mod C 7
theorem low7 (C R p : Nat) (h : C = p + 256 * R) (hp : p ≤ 64) (lC : C < 2 ^ 63) : Go.bits .and .i64 (C : Int) 127 = (p : Int) := by
  have hm : Go.bits .and .i64 (C : Int) ((127 : Nat) : Int) = ((C &&& 127 : Nat) : Int) := bits_and63 C 127 lC (by omega)
  have e : C % 128 = p := by omega
  rw [mod128, e] at hm
  exact hm
open Go.Proofs.YtlhheknhkjcffaaDoor.PGroupParts Go.Proofs.YtlhheknhkjcffaaDoorW.PrintWords in
theorem ones (x : Nat) (hx : x < 2 ^ 64) : bits_OnesCount64.f (x : Int) = some ((pc 64 x : Nat) : Int) := by
  have h1 := s1_lt x hx
  have h2 := s2_lt (s1 8 x)
  unfold bits_OnesCount64.f
  have e1 : IntKind.u64.wrap ((Go.bits .and .u64 ((x : Int) / 2) 6148914691236517205) + (Go.bits .and .u64 (x : Int) 6148914691236517205)) = ((s1 8 x : Nat) : Int) := by
    have a := bits_and (x / 2) 6148914691236517205 (by omega) (by decide)
    have b := bits_and x 6148914691236517205 hx (by decide)
    rw [show ((x : Int) / 2) = ((x / 2 : Nat) : Int) by omega]
    rw [show (6148914691236517205 : Int) = ((6148914691236517205 : Nat) : Int) from rfl, a, b, wrap_u64]
    unfold s1 at h1 ⊢
    rw [M55] at h1 ⊢
    omega
  rw [e1]
  generalize hy : s1 8 x = y at *
  have e2 : IntKind.u64.wrap ((Go.bits .and .u64 ((y : Int) / 4) 3689348814741910323) + (Go.bits .and .u64 (y : Int) 3689348814741910323)) = ((s2 8 y : Nat) : Int) := by
    have a := bits_and (y / 4) 3689348814741910323 (by omega) (by decide)
    have b := bits_and y 3689348814741910323 h1 (by decide)
    rw [show ((y : Int) / 4) = ((y / 4 : Nat) : Int) by omega]
    rw [show (3689348814741910323 : Int) = ((3689348814741910323 : Nat) : Int) from rfl, a, b, wrap_u64]
    unfold s2 at h2 ⊢
    rw [M33] at h2 ⊢
    omega
  rw [e2]
  generalize hz : s2 8 y = z at *
  have e3 : Go.bits .and .u64 (IntKind.u64.wrap (((z : Int) / 16) + (z : Int))) 1085102592571150095 = ((s3 8 z : Nat) : Int) := by
    have a := bits_and (z / 16 + z) 1085102592571150095 (by omega) (by decide)
    rw [show IntKind.u64.wrap (((z : Int) / 16) + (z : Int)) = ((z / 16 + z : Nat) : Int) by rw [wrap_u64]; omega]
    rw [show (1085102592571150095 : Int) = ((1085102592571150095 : Nat) : Int) from rfl, a]
    unfold s3
    rw [M0f]
  have hF : s3 8 z = F 8 x := by
    unfold F
    rw [hy, hz]
  rw [e3, hF]
  clear e1 e2 e3 hF hy hz h1 h2
  have hs := summed (F 8 x) (pc 64 x) (pc64 x)
  generalize F 8 x = v at *
  generalize pc 64 x = pcx at *
  clear hx x
  obtain ⟨A, B, C, R, hA, hB, hC, lA, lB, lv, hR, hx64⟩ := hs
  have w1 := wrapsum v 256 256 rfl (by omega)
  rw [← hA] at w1
  have w2 := wrapsum A 65536 65536 rfl (by omega)
  rw [← hB] at w2
  have w3 := wrapsum B 4294967296 4294967296 rfl (by omega)
  rw [← hC] at w3
  rw [w1, w2, w3]
  have lC : C < 2 ^ 63 := by omega
  have hw : RowKit.wrap64 (C : Int) = (C : Int) := by unfold RowKit.wrap64; omega
  rw [hw]
  exact congrArg some (low7 C R pcx hR hx64 lC)
end Go.Proofs.YtlhheknhkjcffaaDoor.Pop
