-- Written for this claim by a program of this session.
import Derived.Test.YtoobhpgkecplmaaQPackReadsx0
import Derived.Test.YtoobhpgkecplmaaQPackReadsx1
namespace Go.Proofs.Ytoobhpgkecplmaa.QPackReads
open Go.RowKit Go.Proofs.YtoobhpgkecplmaaW.PrintWords Go.Proofs.YtoobhpgkecplmaaW.PrintLast Go.Proofs.YtoobhpgkecplmaaW.PrintMore
attribute [local go_sem] max2_int min2_int max_two min_two max_three min_three max_four min_four   -- for this text's walks alone
set_option linter.unusedVariables false
set_option linter.unusedSimpArgs false

/-! ### pack_Log: function 12 -/
open Go
/-! a word's bytes -/
def enc (x : Nat) : List Int := if x < 128 then [(x : Int)] else ((128 + x % 128 : Nat) : Int) :: enc (x / 128)
termination_by x
decreasing_by omega

theorem enc_small {x : Nat} (h : x < 128) : enc x = [(x : Int)] := by rw [enc, if_pos h]
theorem enc_big {x : Nat} (h : ¬ x < 128) : enc x = ((128 + x % 128 : Nat) : Int) :: enc (x / 128) := by rw [enc, if_neg h]
theorem enc_ind {p : Nat → Prop} (h0 : ∀ x, x < 128 → p x) (h1 : ∀ x, ¬ x < 128 → p (x / 128) → p x) (x : Nat) : p x := by
  induction x using Nat.strongRecOn with
  | _ x ih =>
    by_cases h : x < 128
    · exact h0 x h
    · exact h1 x h (ih _ (by omega))
theorem enc_range (x : Nat) : ∀ c ∈ enc x, 0 ≤ c ∧ c ≤ 255 := by
  induction x using enc_ind with
  | h0 x h => rw [enc_small h]; intro c hc; simp at hc; omega
  | h1 x h ih =>
    rw [enc_big h]
    intro c hc
    rcases List.mem_cons.1 hc with hc | hc
    · omega
    · exact ih c hc
theorem enc_pos (x : Nat) : 0 < (enc x).length := by
  by_cases h : x < 128
  · rw [enc_small h]; simp
  · rw [enc_big h]; simp
theorem enc_len (n : Nat) : ∀ x : Nat, x < 128 ^ (n + 1) → (enc x).length ≤ n + 1 := by
  induction n with
  | zero => intro x h; rw [enc_small (by simpa using h)]; simp
  | succ n ih =>
    intro x h
    by_cases hx : x < 128
    · rw [enc_small hx]; simp
    · rw [enc_big hx]
      have := ih (x / 128) (by rw [Nat.div_lt_iff_lt_mul (by decide)]; rw [Nat.pow_succ] at h; exact h)
      simp; omega
theorem enc_len10 {x : Nat} (h : x < 18446744073709551616) : (enc x).length ≤ 10 := enc_len 9 x (by omega)

/-- A word off the front, its place among the ten being i; none: there is none. -/
def dec : Nat → List Int → Option (Nat × Nat)
  | _, [] => none
  | i, c :: r => if i = 9 ∧ 1 < c then none else if c = 0 ∧ 1 ≤ i then none else if c < 128 then some (c.toNat, 1) else
      match dec (i + 1) r with
      | none => none
      | some (y, n) => some ((c - 128).toNat + 128 * y, n + 1)

theorem pow7 (i : Nat) : 2 ^ (7 * (i + 1)) = 128 * 2 ^ (7 * i) := by rw [show 7 * (i + 1) = 7 * i + 7 by omega, Nat.pow_add, Nat.mul_comm]
theorem pow7_9 {i : Nat} (h : i ≤ 9) : 2 ^ (7 * i) ≤ 9223372036854775808 := by
  have := Nat.pow_le_pow_right (n := 2) (by decide) (show 7 * i ≤ 63 by omega)
  exact this
theorem pow7_8 {i : Nat} (h : i ≤ 8) : 2 ^ (7 * i) ≤ 72057594037927936 := by
  have := Nat.pow_le_pow_right (n := 2) (by decide) (show 7 * i ≤ 56 by omega)
  exact this
theorem pow7_pos (i : Nat) : 0 < 2 ^ (7 * i) := Nat.two_pow_pos _

/-- What a place leaves room for. -/
def room (i y : Nat) : Prop := y * 2 ^ (7 * i) < 18446744073709551616
theorem room_zero {y : Nat} : room 0 y ↔ y < 18446744073709551616 := by simp [room]
theorem room_next {i y : Nat} : room (i + 1) (y / 128) ↔ (y / 128) * 128 * 2 ^ (7 * i) < 18446744073709551616 := by
  unfold room
  rw [pow7, Nat.mul_assoc]
theorem room_9 {y : Nat} (h : room 9 y) : y ≤ 1 := by
  unfold room at h
  have e : 2 ^ (7 * 9) = 9223372036854775808 := by decide
  rw [e] at h
  omega

theorem dec_enc (y : Nat) : ∀ (i : Nat) (r : List Int), i ≤ 9 → room i y → (1 ≤ i → 1 ≤ y) → dec i (enc y ++ r) = some (y, (enc y).length) := by
  induction y using enc_ind with
  | h0 y h =>
    intro i r hi hr h1
    rw [enc_small h]
    simp only [List.singleton_append, dec]
    rw [if_neg (by rintro ⟨rfl, h2⟩; have := room_9 hr; omega), if_neg (by omega), if_pos (by omega)]
    simp
  | h1 y h ih =>
    intro i r hi hr h1
    have hi9 : i ≠ 9 := by
      rintro rfl
      have := room_9 hr
      omega
    have hr' : room (i + 1) (y / 128) := by
      rw [room_next]
      unfold room at hr
      exact Nat.lt_of_le_of_lt (Nat.mul_le_mul_right _ (Nat.div_mul_le_self y 128)) hr
    have := ih (i + 1) r (by omega) hr' (by omega)
    rw [enc_big h]
    simp only [List.cons_append, dec]
    rw [if_neg (by omega), if_neg (by omega), if_neg (by omega), this]
    simp only [Option.some.injEq, Prod.mk.injEq, List.length_cons, and_true]
    omega

theorem room_step {i y c : Nat} (hi : i ≤ 8) (h : room (i + 1) y) (hc : c ≤ 127) : room i (c + 128 * y) := by
  unfold room at h ⊢
  obtain ⟨Q, hQ⟩ : ∃ Q : Nat, Q * 2 ^ (7 * (i + 1)) = 18446744073709551616 := ⟨2 ^ (64 - 7 * (i + 1)), by rw [← Nat.pow_add, show 64 - 7 * (i + 1) + 7 * (i + 1) = 64 by omega]⟩
  rw [← hQ] at h ⊢
  have hp := Nat.two_pow_pos (7 * (i + 1))
  have hy : y < Q := Nat.lt_of_mul_lt_mul_right h
  rw [pow7]
  have p0 := pow7_pos i
  generalize 2 ^ (7 * i) = P at p0
  have b1 : (c + 128 * y) * P < (128 + 128 * y) * P := Nat.mul_lt_mul_of_pos_right (by omega) p0
  have b2 : (y + 1) * (128 * P) ≤ Q * (128 * P) := Nat.mul_le_mul_right _ hy
  have b3 : (128 + 128 * y) * P = (y + 1) * (128 * P) := by
    rw [show 128 + 128 * y = (y + 1) * 128 by omega, Nat.mul_assoc]
  omega

theorem dec_sound (b : List Int) : ∀ (i y n : Nat), i ≤ 9 → (∀ c ∈ b, 0 ≤ c ∧ c ≤ 255) → dec i b = some (y, n) → n = (enc y).length ∧ (∃ r, b = enc y ++ r) ∧ room i y ∧ (1 ≤ i → 1 ≤ y) := by
  induction b with
  | nil => intro i y n _ _ h; simp [dec] at h
  | cons c r ih =>
    intro i y n hi hb h
    have hc := hb c (by simp)
    simp only [dec] at h
    by_cases h1 : i = 9 ∧ 1 < c
    · rw [if_pos h1] at h; cases h
    · rw [if_neg h1] at h
      by_cases h2 : c = 0 ∧ 1 ≤ i
      · rw [if_pos h2] at h; cases h
      · rw [if_neg h2] at h
        by_cases h3 : c < 128
        · rw [if_pos h3] at h
          simp only [Option.some.injEq, Prod.mk.injEq] at h
          obtain ⟨rfl, rfl⟩ := h
          have e : enc c.toNat = [c] := by rw [enc_small (by omega), Int.toNat_of_nonneg hc.1]
          refine ⟨by rw [e]; rfl, ⟨r, by rw [e]; rfl⟩, ?_, by omega⟩
          unfold room
          by_cases h9 : i = 9
          · subst h9
            have e : 2 ^ (7 * 9) = 9223372036854775808 := by decide
            rw [e]; omega
          · have a := pow7_8 (show i ≤ 8 by omega)
            have b := Nat.mul_le_mul (show c.toNat ≤ 127 by omega) a
            omega
        · rw [if_neg h3] at h
          cases hd : dec (i + 1) r with
          | none => rw [hd] at h; cases h
          | some p =>
            obtain ⟨y', n'⟩ := p
            rw [hd] at h
            simp only [Option.some.injEq, Prod.mk.injEq] at h
            obtain ⟨rfl, rfl⟩ := h
            obtain ⟨a1, ⟨r', a2⟩, a3, a4⟩ := ih (i + 1) y' n' (by omega) (fun c hc => hb c (by simp [hc])) hd
            have a4 := a4 (by omega)
            have e : enc ((c - 128).toNat + 128 * y') = c :: enc y' := by
              rw [enc_big (by omega), show ((c - 128).toNat + 128 * y') / 128 = y' by omega]
              congr 1
              omega
            refine ⟨by rw [e, a1]; rfl, ⟨r', by rw [e, a2]; rfl⟩, ?_, by omega⟩
            have hi8 : i ≤ 8 := by
              by_cases h9 : i = 9
              · subst h9
                exfalso
                have e9 : c ≤ 1 := by
                  by_cases hh : 1 < c
                  · exact absurd ⟨rfl, hh⟩ h1
                  · omega
                omega
              · omega
            exact room_step hi8 a3 (by omega)


/-! numbers as words -/
def zagI (x : Nat) : Int := if x % 2 = 1 then -((x / 2 : Nat) : Int) - 1 else ((x / 2 : Nat) : Int)
def zigI (n : Int) : Nat := if n < 0 then (-2 * n - 1).toNat else (2 * n).toNat
theorem zig_zag (x : Nat) : zigI (zagI x) = x := by
  unfold zagI
  split
  · unfold zigI; rw [if_pos (by omega)]; omega
  · unfold zigI; rw [if_neg (by omega)]; omega
theorem zag_zig (n : Int) : zagI (zigI n) = n := by
  unfold zigI
  split
  · unfold zagI; rw [if_pos (by omega)]; omega
  · unfold zagI; rw [if_neg (by omega)]; omega
theorem zig_lt {n : Int} (h0 : -9223372036854775808 ≤ n) (h1 : n ≤ 9223372036854775807) : zigI n < 18446744073709551616 := by
  unfold zigI
  split <;> omega
theorem zag_range {x : Nat} (h : x < 18446744073709551616) : -9223372036854775808 ≤ zagI x ∧ zagI x ≤ 9223372036854775807 := by
  unfold zagI
  split <;> omega
theorem w_u64 (n : Int) : IntKind.u64.wrap n = n % 18446744073709551616 := by simp [IntKind.wrap, IntKind.bits, IntKind.signed]
theorem ones64 : BitVec.ofInt 64 (-1) = BitVec.allOnes 64 := by decide
theorem ones64' : BitVec.ofInt 64 18446744073709551615 = BitVec.allOnes 64 := by decide
theorem xor_i64_neg {a : Nat} (h : a < 9223372036854775808) : Go.bits .xor .i64 (a : Int) (-1) = -(a : Int) - 1 := by
  show IntKind.i64.wrap ((BitVec.ofInt 64 (a : Int) ^^^ BitVec.ofInt 64 (-1)).toNat : Int) = _
  rw [ones64, BitVec.xor_allOnes, BitVec.toNat_not, BitVec.ofInt_natCast, BitVec.toNat_ofNat, Nat.mod_eq_of_lt (by omega), IntKind.wrap_i64]
  omega
theorem xor_i64_zero {a : Nat} (h : a < 9223372036854775808) : Go.bits .xor .i64 (a : Int) 0 = (a : Int) := by
  show IntKind.i64.wrap ((BitVec.ofInt 64 (a : Int) ^^^ BitVec.ofInt 64 0).toNat : Int) = _
  rw [show BitVec.ofInt 64 0 = 0#64 by decide, BitVec.xor_zero, BitVec.ofInt_natCast, BitVec.toNat_ofNat, Nat.mod_eq_of_lt (by omega), IntKind.wrap_i64]
  omega
theorem xor_u64_ones {a : Nat} (h : a < 18446744073709551616) : Go.bits .xor .u64 (a : Int) 18446744073709551615 = ((18446744073709551615 - a : Nat) : Int) := by
  show IntKind.u64.wrap ((BitVec.ofInt 64 (a : Int) ^^^ BitVec.ofInt 64 18446744073709551615).toNat : Int) = _
  rw [ones64', BitVec.xor_allOnes, BitVec.toNat_not, BitVec.ofInt_natCast, BitVec.toNat_ofNat, Nat.mod_eq_of_lt (by omega), w_u64]
  omega
theorem xor_u64_zero {a : Nat} (h : a < 18446744073709551616) : Go.bits .xor .u64 (a : Int) 0 = (a : Int) := by
  show IntKind.u64.wrap ((BitVec.ofInt 64 (a : Int) ^^^ BitVec.ofInt 64 0).toNat : Int) = _
  rw [show BitVec.ofInt 64 0 = 0#64 by decide, BitVec.xor_zero, BitVec.ofInt_natCast, BitVec.toNat_ofNat, Nat.mod_eq_of_lt (by omega), w_u64]
  omega
theorem zig_bits {n : Int} (h0 : -9223372036854775808 ≤ n) (h1 : n ≤ 9223372036854775807) :
    Go.bits .xor .u64 (IntKind.u64.wrap ((IntKind.u64.wrap n) * 2)) (IntKind.u64.wrap (n / 9223372036854775808)) = (zigI n : Int) := by
  unfold zigI
  rw [w_u64, w_u64, w_u64]
  by_cases h : n < 0
  · rw [if_pos h, show n / 9223372036854775808 % 18446744073709551616 = 18446744073709551615 by omega]
    rw [show n % 18446744073709551616 * 2 % 18446744073709551616 = ((18446744073709551616 + 2 * n).toNat : Int) by omega, xor_u64_ones (by omega)]
    omega
  · rw [if_neg h, show n / 9223372036854775808 % 18446744073709551616 = 0 by omega]
    rw [show n % 18446744073709551616 * 2 % 18446744073709551616 = ((2 * n).toNat : Int) by omega, xor_u64_zero (by omega)]
theorem zag_bits {x : Nat} (h : x < 18446744073709551616) :
    Go.bits .xor .i64 (wrap64 ((x : Int) / 2)) (wrap64 (-(wrap64 (Go.bits .and .u64 (x : Int) 1)))) = zagI x := by
  have e : Go.bits .and .u64 (x : Int) 1 = (x : Int) % 2 :=
    Go.bits_mask .u64 64 (by decide) (fun n a b => by rw [w_u64]; omega) 1 (by decide) x (by omega) (by omega)
  rw [e, show wrap64 ((x : Int) / 2) = ((x / 2 : Nat) : Int) by unfold wrap64; omega]
  unfold zagI
  by_cases h2 : x % 2 = 1
  · rw [if_pos h2, show (x : Int) % 2 = 1 by omega, show wrap64 (-(wrap64 1)) = -1 by unfold wrap64; omega, xor_i64_neg (by omega)]
  · rw [if_neg h2, show (x : Int) % 2 = 0 by omega, show wrap64 (-(wrap64 0)) = 0 by unfold wrap64; omega, xor_i64_zero (by omega)]
theorem or128 {y : Int} (h0 : 0 ≤ y) (h1 : y < 256) : Go.bits .or .u8 y 128 = 128 + y % 128 := by
  rw [Go.u8_or y 128 h0 h1 (by decide) (by decide)]
  have e : ∀ n : Nat, n < 256 → n ||| 128 = 128 + n % 128 := by decide +kernel
  have := e y.toNat (by omega)
  rw [show (128 : Int).toNat = 128 from rfl, this]
  omega
theorem or_place {acc c p : Nat} (h : acc < 2 ^ p) (ht : acc + c * 2 ^ p < 18446744073709551616) : Go.bits .or .u64 (acc : Int) ((c * 2 ^ p : Nat) : Int) = ((acc + c * 2 ^ p : Nat) : Int) := by
  rw [Go.u64_or_nat acc (c * 2 ^ p) (by omega) (by omega)]
  have := Nat.two_pow_add_eq_or_of_lt h c
  rw [Nat.mul_comm c, Nat.or_comm, ← this, Nat.add_comm]
theorem zag_ref {x : Nat} (h : x < 18446744073709551616) :
    (if (Int.tmod (x : Int) 2) = 1 then some (wrap64 ((wrap64 (-(wrap64 (IntKind.u64.wrap (Int.tdiv (x : Int) 2))))) - 1)) else some (wrap64 (IntKind.u64.wrap (Int.tdiv (x : Int) 2)))) = some (zagI x) := by
  rw [Int.tmod_eq_emod_of_nonneg (by omega), Int.tdiv_eq_ediv_of_nonneg (by omega), w_u64]
  obtain ⟨q, hq⟩ : ∃ q : Nat, q = x / 2 := ⟨_, rfl⟩
  have hq2 : q < 9223372036854775808 := by omega
  rw [show (x : Int) / 2 % 18446744073709551616 = (q : Int) by omega, show wrap64 (q : Int) = (q : Int) by unfold wrap64; omega]
  rw [show wrap64 (-(q : Int)) = -(q : Int) by unfold wrap64; omega, show wrap64 (-(q : Int) - 1) = -(q : Int) - 1 by unfold wrap64; omega]
  unfold zagI
  rw [← hq]
  by_cases h2 : x % 2 = 1
  · rw [if_pos h2, if_pos (by omega)]
  · rw [if_neg h2, if_neg (by omega)]
theorem zig_ref {n : Int} (h0 : -9223372036854775808 ≤ n) (h1 : n ≤ 9223372036854775807) :
    (if n < 0 then some (IntKind.u64.wrap ((IntKind.u64.wrap (2 * (IntKind.u64.wrap (wrap64 (-(wrap64 (n + 1))))))) + 1)) else some (IntKind.u64.wrap (2 * (IntKind.u64.wrap n)))) = some (zigI n : Int) := by
  unfold zigI
  rw [w_u64, w_u64, w_u64, w_u64, w_u64]
  by_cases h : n < 0
  · rw [if_pos h, if_pos h]
    congr 1
    unfold wrap64
    omega
  · rw [if_neg h, if_neg h]
    congr 1
    omega


/-! what the program's functions tell -/
theorem wrap_succ (i : Nat) (h : i < 9223372036854775807) : wrap64 ((i : Int) + 1) = ((i + 1 : Nat) : Int) := by
  unfold wrap64; omega
theorem put_loop (x : Nat) : ∀ (k : Nat) (acc : List Int), (enc x).length ≤ k → acc.length + (enc x).length ≤ 140737488355328 → octet_Put.l0 k x acc = some (acc ++ enc x) := by
  induction x using enc_ind with
  | h0 x h =>
    intro k acc hk hl
    have hp := enc_pos x
    obtain ⟨k, rfl⟩ : ∃ m, k = m + 1 := ⟨k - 1, by omega⟩
    simp only [octet_Put.l0]
    rw [if_neg (by omega), if_pos (by omega), enc_small h, show (x : Int) % 256 = x by omega]
  | h1 x h ih =>
    intro k acc hk hl
    have hp := enc_pos x
    obtain ⟨k, rfl⟩ : ∃ m, k = m + 1 := ⟨k - 1, by omega⟩
    rw [enc_big h] at hk hl
    simp only [List.length_cons] at hk hl
    simp only [octet_Put.l0]
    rw [if_pos (by omega), if_pos (by omega), or128 (by omega) (by omega), show (x : Int) / 128 = ((x / 128 : Nat) : Int) by omega, show 128 + (x : Int) % 256 % 128 = ((128 + x % 128 : Nat) : Int) by omega]
    rw [ih k _ (by omega) (by simp; omega), enc_big h]
    simp
theorem put_yes (b : List Int) (hb : b.length ≤ 1000000) (x : Nat) (hx : x < 18446744073709551616) (k : Nat) (hk : 10 ≤ k) : octet_Put.f k b x = some (b ++ enc x) := by
  have hl := enc_len10 hx
  unfold octet_Put.f
  simp only [Option.bind_some, List.length_nil, List.nil_append]
  rw [if_pos (by omega)]
  exact put_loop x k b (by omega) (by omega)
theorem lt_of_blk {W : World} {g : Nat} {o : Obj} (h : W.heap[g]? = some o) : g < W.heap.size := (Array.getElem?_eq_some_iff.1 h).1
/-- the writer lies in block gw; what it wrote is xs; lg: something was too long -/
def Wr (W : World) (gw B : Nat) (xs : List Int) (lg : Bool) : Prop := ∃ v, W.heap[gw]? = some (.cells #[v, .bool lg] 59 (0, 0)) ∧ (Kd.int .u8).R 5 W B (fun _ => True) v xs
def Ww (gw B : Nat) (v : Value) (xs : List Int) (lg : Bool) (W : World) : Prop := W.heap[gw]? = some (.cells #[v, .bool lg] 59 (0, 0)) ∧ (Kd.int .u8).R 5 W B (fun _ => True) v xs
theorem Ww.next {gw B : Nat} {v : Value} {xs : List Int} {lg : Bool} {W W' : World} (h : Ww gw B v xs lg W) (hb : Below W.heap.size W W') : Ww gw B v xs lg W' := ⟨(hb.block _ (lt_of_blk h.1)).trans h.1, Kd.R_below h.2 hb⟩
theorem Wr.next {gw B : Nat} {xs : List Int} {lg : Bool} {W W' : World} (h : Wr W gw B xs lg) (hb : Below W.heap.size W W') : Wr W' gw B xs lg := by
  obtain ⟨v, h1, h2⟩ := h
  exact ⟨v, (hb.block _ (lt_of_blk h1)).trans h1, Kd.R_below h2 hb⟩
theorem draw_below (w : World) : Below w.heap.size w w.drew := (Drawn0.mk ⟨1, rfl⟩ : Drawn0 w (w.drewN 1)).below
def Wb (gw : Nat) (v : Value) (lg : Bool) (W : World) : Prop := W.heap[gw]? = some (.cells #[v, .bool lg] 59 (0, 0))
theorem Wb.next {gw : Nat} {v : Value} {lg : Bool} {W W' : World} (h : Wb gw v lg W) (hb : Below W.heap.size W W') : Wb gw v lg W' := (hb.block _ (lt_of_blk h)).trans h
/-- blocks of another type than bytes, the writer's own left out, stay as they are -/
def Kp (gw : Nat) (W W' : World) : Prop := ∀ (k : Nat) (cells : Array Value) (t : Nat), k ≠ gw → t ≠ 5 → W.heap[k]? = some (.cells cells t (0, 0)) → W'.heap[k]? = some (.cells cells t (0, 0))
theorem Kp.refl (gw : Nat) (W : World) : Kp gw W W := fun _ _ _ _ _ h => h
theorem Kp.trans {gw : Nat} {a b c : World} (h : Kp gw a b) (h2 : Kp gw b c) : Kp gw a c := fun k cells t h1 h3 hk => h2 k cells t h1 h3 (h k cells t h1 h3 hk)
theorem Kp.below {gw : Nat} {W W' : World} (h : Below W.heap.size W W') : Kp gw W W' := fun k cells t _ _ hk => (h.block k (lt_of_blk hk)).trans hk
theorem Kp.grown {gw : Nat} {W W' : World} {v : Value} {xs : List Int} {B : Nat} {ok : Nat → Prop} (h : W.grownBy W' v.ownBlock) (hR : (Kd.int .u8).R 5 W B ok v xs) : Kp gw W W' := fun k cells t _ ht hk => (h.block k (lt_of_blk hk) (Kd.R_ne hR hk (fun e => ht e.symm))).trans hk
theorem Kp.set {gw : Nat} {W : World} (j : Nat) (u : Value) : Kp gw W (W.setCell ⟨gw, j, none⟩ u) := fun k cells t h1 _ hk => (Below.heap_setCell W ⟨gw, j, none⟩ u k h1).trans hk
set_option maxHeartbeats 8000000 in
set_option maxRecDepth 100000 in
theorem word_calls (gw B : Nat) (xs : List Int) (lg : Bool) (x : Nat) (w0 W : World) (hW : Wr W gw B xs lg) (hb0 : Below B w0 W) (hB : B ≤ gw) (hx : x < 18446744073709551616) (hl : xs.length ≤ 1000000000) :
    Calls Try.prog 22 #[.pointer (some ⟨gw, 0, none⟩), .int .u64 (x : Int)] W fun e w' => e = .returned (.tuple #[]) ∧ Wr w' gw B (xs ++ enc x) lg ∧ Below B w0 w' ∧ Kp gw W w' := by
  obtain ⟨v, hv⟩ := hW
  obtain ⟨Av, cv, rfl⟩ := Kd.R_slice hv.2
  have HS := Aside0.mk (show Ww gw B (.slice Av xs.length cv) xs lg W from hv)
  have HB0 := Aside0.mk hb0
  have hput := put_yes [] (by simp) x hx 10 (Nat.le_refl _)
  rw [List.nil_append] at hput
  have HPUT := Aside0.mk hput
  have hel := enc_len10 hx
  clear hv hb0 hput
  go_enter Try.func22, Try.ntmps22
  refine start_ (n := 11) (S := Wb gw (.slice Av xs.length cv) lg) (ds := [10]) #[false, false, false, false, false, false, false, false, false, false, false] (by kernel_rfl) rfl rfl (Wb.next HS.out.1 (draw_below _)) (fun hS => ?_)
  refine pure_ (i := 0) (N := some 4) (v := ?_) (a' := ?_) #[true, false, false, false, false, false, false, false, false, false, false] rfl rfl (by kernel_rfl) (fun _ _ _ h => h) (Or.inl ⟨by rfl, ?_⟩) ?_ ?_
  rotate_left
  · intro w'
    go_simp
    try (with_reducible rfl)
  rotate_left
  · simp only [Act.put, List.setIfInBounds_toArray, List.set_cons_zero, List.set_cons_succ]
    rfl
  refine pure_ (i := 1) (N := some 5) (v := ?_) (a' := ?_) #[true, true, false, false, false, false, false, false, false, false, false] rfl rfl (by kernel_rfl) (fun _ _ _ h => h) (Or.inl ⟨by rfl, ?_⟩) ?_ ?_
  rotate_left
  · intro w'
    go_simp
    try (with_reducible rfl)
  rotate_left
  · simp only [Act.put, List.setIfInBounds_toArray, List.set_cons_zero, List.set_cons_succ]
    rfl
  refine pure_ (i := 2) (N := some 6) (v := ?_) (a' := ?_) #[true, true, true, false, false, false, false, false, false, false, false] rfl rfl (by kernel_rfl) (fun _ _ _ h => h) (Or.inl ⟨by rfl, ?_⟩) ?_ ?_
  rotate_left
  · intro w'
    go_simp
    try (with_reducible rfl)
  rotate_left
  · simp only [Act.put, List.setIfInBounds_toArray, List.set_cons_zero, List.set_cons_succ]
    rfl
  refine pure_ (i := 3) (N := some 7) (v := ?_) (a' := ?_) #[true, true, true, true, false, false, false, false, false, false, false] rfl rfl (by kernel_rfl) (fun _ _ _ h => h) (Or.inl ⟨by rfl, ?_⟩) ?_ ?_
  rotate_left
  · intro w'
    go_simp
    try (with_reducible rfl)
  rotate_left
  · simp only [Act.put, List.setIfInBounds_toArray, List.set_cons_zero, List.set_cons_succ]
    rfl
  refine take_ (i := 4) (N := some 8) (v := ?_) (a' := ?_) #[true, true, true, true, true, false, false, false, false, false, false] rfl rfl (by kernel_rfl) (fun _ _ _ h => h) (Or.inl ⟨by rfl, ?_⟩) hS ?_ ?_
  rotate_left
  · intro w' hw; have hc := (blk_cell hw 0).trans rfl
    go_simp
    try (with_reducible rfl)
  rotate_left
  · simp only [Act.put, List.setIfInBounds_toArray, List.set_cons_zero, List.set_cons_succ]
    rfl
  refine pure_ (i := 5) (N := some 9) (v := ?_) (a' := ?_) #[true, true, true, true, true, true, false, false, false, false, false] rfl rfl (by kernel_rfl) (fun _ _ _ h => h) (Or.inl ⟨by rfl, ?_⟩) ?_ ?_
  rotate_left
  · intro w'
    go_simp
    try (with_reducible rfl)
  rotate_left
  · simp only [Act.put, List.setIfInBounds_toArray, List.set_cons_zero, List.set_cons_succ]
    rfl
  refine one_ (i := 6) (N := some 10) #[true, true, true, true, true, true, true, false, false, false, false] rfl rfl (by kernel_rfl) (by simp) (fun K hK => ?_)
  refine goes_ Try.func46 (by kernel_rfl) rfl #[.slice none 0 0, .int .u64 (x : Int)] (by rfl) rfl rfl (by (try simp only [List.map_toArray, List.map_cons, List.map_nil]); first | done | rfl) ?_
  refine (octet_Put.calls 10 none 0 [] (x : Int) (enc x) _ (Kd.C_nil _ _) (Nat.le_refl _) HPUT.out).mono ?_
  rintro e w' ⟨vp, rfl, hvp, hbp⟩
  refine ⟨_, rfl, ?_⟩
  replace hS := Wb.next hS hbp
  refine hK.out _ _ hS (fun _ => ?_)
  clear hK K
  refine norm_ (a' := ?_) ?_ ?_
  rotate_left
  · simp only [Act.put, List.setIfInBounds_toArray, List.set_cons_zero, List.set_cons_succ]
    rfl
  obtain ⟨Ap, cp, rfl⟩ := Kd.R_slice hvp
  have hlt := lt_of_blk HS.out.1
  have hR1 := Kd.R_below (Kd.R_below HS.out.2 (draw_below W)) hbp
  have hB1 := (HB0.out.trans ((draw_below W).mono (by omega))).trans (hbp.mono (show B ≤ W.drew.heap.size by show B ≤ W.heap.size; omega))
  have hsz := hbp.size
  have hsz2 : W.drew.heap.size = W.heap.size := rfl
  refine one_ (i := 7) (N := some 11) #[true, true, true, true, true, true, true, true, false, false, false] rfl rfl (by kernel_rfl) (by simp) (fun K hK => ?_)
  refine Kd.R_append_rows_step (Kd.int .u8) (w0 := w0) B (by rfl) (.tmp 8) (.tmp 10) 33 5 (.int .u8 0) 1 rfl Try.underlying33 info5 rfl (by decide) (by decide) (.slice Av xs.length cv) xs (enc x) Ap (enc x).length cp (fun _ => True) (fun _ => False) rfl rfl hR1 (Kd.R_reads' hvp).2.2 (fun _ _ h => h) (fun _ h => h.elim) (fun _ _ => trivial) hB1 (by omega) (by omega) ?_
  intro v1 w4 hR4 hb4 hg4 hat4
  have hk4 : Wb gw (.slice Av xs.length cv) lg w4 := (hg4.block _ (lt_of_blk hS) (Kd.R_ne hR1 hS (by decide))).trans hS
  refine hK.out _ _ hk4 (fun hS => ?_)
  clear hK K
  refine norm_ (a' := ?_) ?_ ?_
  rotate_left
  · simp only [Act.put, List.setIfInBounds_toArray, List.set_cons_zero, List.set_cons_succ]
    rfl
  refine pure_ (i := 8) (N := some 12) (v := ?_) (a' := ?_) #[true, true, true, true, true, true, true, true, true, false, false] rfl rfl (by kernel_rfl) (fun _ _ _ h => h) (Or.inl ⟨by rfl, ?_⟩) ?_ ?_
  rotate_left
  · intro w'
    go_simp
    try (with_reducible rfl)
  rotate_left
  · simp only [Act.put, List.setIfInBounds_toArray, List.set_cons_zero, List.set_cons_succ]
    rfl
  refine pure_ (i := 9) (N := some 13) (v := ?_) (a' := ?_) #[true, true, true, true, true, true, true, true, true, true, false] rfl rfl (by kernel_rfl) (fun _ _ _ h => h) (Or.inl ⟨by rfl, ?_⟩) ?_ ?_
  rotate_left
  · intro w'
    go_simp
    try (with_reducible rfl)
  rotate_left
  · simp only [Act.put, List.setIfInBounds_toArray, List.set_cons_zero, List.set_cons_succ]
    rfl
  refine last_ (i := 10) (N := none) #[true, true, true, true, true, true, true, true, true, true, true] rfl rfl (by kernel_rfl) (by simp) (fun K hK => ?_)
  obtain ⟨A4, c4, rfl⟩ := Kd.R_slice hR4
  have hc4 := (blk_cell hS 0).trans rfl
  have hf4 := blk_frozen hS 0
  refine skip_ (w1 := w4.setCell ⟨gw, 0, none⟩ (.slice A4 (xs ++ enc x).length c4)) (by rfl) rfl (by first | (go_simp; done) | (go_simp; rfl)) ?_
  refine hK.out _ _ ?_
  clear hK K
  refine done_ (by kernel_rfl) ?_
  go_end0
  refine ⟨rfl, ⟨.slice A4 (xs ++ enc x).length c4, ?_, ?_⟩, hb4.setCell hB _, (((Kp.below (draw_below W)).trans (Kp.below hbp)).trans (Kp.grown hg4 hR1)).trans (Kp.set _ _)⟩
  · rw [blk_set hS]; rfl
  · exact Kd.R_mono (Kd.R_far (p := ⟨gw, 0, none⟩) (Kd.R_types hR4 hS (by decide)) (fun _ hk => hk.2) _) (fun _ _ => trivial)
def nums (l : List Int) : List Int := (l.map fun n => enc (zigI n)).flatten
theorem nums_cons (n : Int) (l : List Int) : nums (n :: l) = enc (zigI n) ++ nums l := rfl
theorem nums_append (a b : List Int) : nums (a ++ b) = nums a ++ nums b := by simp [nums]
def ints (l : List Int) : Prop := ∀ n ∈ l, -9223372036854775808 ≤ n ∧ n ≤ 9223372036854775807
theorem nums_len (l : List Int) (h : ints l) : (nums l).length ≤ 10 * l.length := by
  induction l with
  | nil => simp [nums]
  | cons n l ih =>
    rw [nums_cons, List.length_append, List.length_cons]
    have h1 := h n (List.mem_cons_self ..)
    have := enc_len10 (zig_lt h1.1 h1.2)
    have := ih (fun m hm => h m (List.mem_cons_of_mem _ hm))
    omega
theorem rd_drop (a : List Int) (i : Nat) (h : i < a.length) : a.drop i = rd a (i : Int) :: a.drop (i + 1) := by
  rw [List.drop_eq_getElem_cons h]
  simp [rd, List.getD_eq_getElem?_getD, h]
theorem rd_mem (a : List Int) (i : Nat) (h : i < a.length) : rd a (i : Int) ∈ a := by
  simp only [rd, Int.toNat_natCast, List.getD_eq_getElem?_getD, List.getElem?_eq_getElem h, Option.getD_some]
  exact List.getElem_mem h
theorem nums_take (l : List Int) (i : Nat) (h : i < l.length) : nums (l.take (i + 1)) = nums (l.take i) ++ enc (zigI (rd l (i : Int))) := by
  rw [List.take_succ_eq_append_getElem h, nums_append]
  simp [nums, rd, List.getD_eq_getElem?_getD, h]
set_option maxHeartbeats 8000000 in
set_option maxRecDepth 100000 in
theorem nums_calls (gw B : Nat) (xs : List Int) (lg : Bool) (A : Option Addr) (c : Nat) (l : List Int) (w0 W : World) (hW : Wr W gw B xs lg) (hb0 : Below B w0 W) (hB : B ≤ gw) (hC : ∀ W', Kp gw W W' → Below B w0 W' → Kd.C (Kd.int .i64) W' A l.length l) (hi : ints l) (hl : xs.length + 10 * l.length ≤ 1000000000) :
    Calls Try.prog 21 #[.pointer (some ⟨gw, 0, none⟩), .slice A l.length c] W fun e w' => e = .returned (.tuple #[]) ∧ Wr w' gw B (xs ++ nums l) lg ∧ Below B w0 w' ∧ Kp gw W w' := by
  have HW := Aside0.mk hW
  have HB0 := Aside0.mk hb0
  have HC := Aside0.mk hC
  have HI := Aside0.mk hi
  have hmx := Kd.C_max (hC W (Kp.refl _ _) hb0)
  clear hW hb0 hC hi
  go_enter Try.func21, Try.ntmps21
  go_wp2
  go_loopg [8] (l.length + 1) (fun kq v8 wc => ∃ (i : Nat), i ≤ l.length ∧ l.length < i + kq ∧ v8 = .int .i64 (i : Int) ∧ Aside0 (Wr wc gw B (xs ++ nums (l.take i)) lg) ∧ Aside0 (Below B w0 wc) ∧ Aside0 (Kp gw W wc))
  case atStart => exact ⟨0, by omega, by omega, rfl, ⟨by rw [List.take_zero]; simpa [nums] using HW.out⟩, HB0, ⟨Kp.refl _ _⟩⟩
  case round =>
    clear HW HB0
    obtain ⟨i, hi, hik, rfl, HW, HB0, HK⟩ := hrel
    cases gk with
    | zero => omega
    | succ g =>
    by_cases hlt : i < l.length
    · have c1b : decide ((i : Int) < (l.length : Int)) = true := decide_eq_true (by omega)
      have q1 : (0 : Int) ≤ (i : Int) := by omega
      have q2 : (i : Int) < (l.length : Int) := by omega
      obtain ⟨ad, e1, hx⟩ := Kd.at_int (HC.out wr HK.out HB0.out) (i : Int) q1 q2
      cases e1
      simp only [Int.toNat_natCast] at hx
      have hn := HI.out _ (rd_mem l i hlt)
      have hnx := nums_take l i hlt
      have hlen := nums_len (l.take i) (fun n hn => HI.out n (List.mem_of_mem_take hn))
      have hlt2 : (l.take i).length ≤ l.length := by simp; omega
      generalize rd l (i : Int) = n at *
      have hz : octet_Zig.f n = some ((zigI n : Nat) : Int) := by unfold octet_Zig.f; rw [zig_bits hn.1 hn.2]
      have HZ := Aside0.mk hz
      clear hz
      have hzl := zig_lt hn.1 hn.2
      go_wp2_with (first | (go_at_call 45; (with_reducible refine (octet_Zig.calls n ((zigI n : Nat) : Int) _ HZ.out).mono ?_); rintro e w2 ⟨rfl, ⟨nd, rfl⟩⟩) | (go_at_call 22; (with_reducible refine (word_calls gw B (xs ++ nums (l.take i)) lg (zigI n) w0 _ ?s1 ?s2 ?s3 ?s4 ?s5).mono ?_); (case s1 => exact HW.out.next (pw_below_drewN (Below.refl _ _) nd)); (case s2 => exact pw_below_drewN HB0.out nd); (case s3 => exact hB); (case s4 => exact hzl); (case s5 => simp only [List.length_append]; omega); rintro e w3 ⟨rfl, hW3, hB3, hK3⟩))
      go_roundg g
      case measure => omega
      case rel => exact ⟨i + 1, by omega, by omega, by first | rfl | rw [wrap_succ i (by omega)], ⟨by rw [hnx, ← List.append_assoc]; exact hW3⟩, ⟨hB3⟩, ⟨(HK.out.trans (Kp.below (pw_below_drewN (Below.refl _ _) nd))).trans hK3⟩⟩
    · have c1b : decide ((i : Int) < (l.length : Int)) = false := decide_eq_false (by omega)
      obtain rfl : i = l.length := by omega
      rw [List.take_length] at HW
      go_wp2
      go_end0
      exact ⟨rfl, HW.out, HB0.out, HK.out⟩
theorem u64_nat {n : Nat} (h : n < 9223372036854775808) : IntKind.u64.wrap (n : Int) = (n : Int) := by
  rw [IntKind.wrap_u64]
  omega
theorem Wr.at {W : World} {gw B : Nat} {xs : List Int} {lg : Bool} (h : Wr W gw B xs lg) : ∃ A c, W.heap[gw]? = some (.cells #[.slice A xs.length c, .bool lg] 59 (0, 0)) ∧ (Kd.int .u8).R 5 W B (fun _ => True) (.slice A xs.length c) xs := by
  obtain ⟨v, h1, h2⟩ := h
  obtain ⟨A, c, rfl⟩ := Kd.R_slice h2
  exact ⟨A, c, h1, h2⟩
theorem Wr.long {W : World} {gw B : Nat} {xs : List Int} {lg : Bool} (h : Wr W gw B xs lg) (b : Bool) : Wr (W.setCell ⟨gw, 1, none⟩ (.bool b)) gw B xs b := by
  obtain ⟨v, h1, h2⟩ := h
  refine ⟨v, by rw [blk_set h1]; rfl, ?_⟩
  exact Kd.R_mono (Kd.R_far (p := ⟨gw, 1, none⟩) (Kd.R_types h2 h1 (by decide)) (fun _ hk => hk.2) _) (fun _ _ => trivial)
set_option maxHeartbeats 8000000 in
set_option maxRecDepth 100000 in
theorem many_calls (gw B : Nat) (xs : List Int) (lg : Bool) (n : Nat) (most : Int) (w0 W : World) (hW : Wr W gw B xs lg) (hb0 : Below B w0 W) (hB : B ≤ gw) (hn : n < 9223372036854775808) (hl : xs.length ≤ 1000000000) :
    Calls Try.prog 23 #[.pointer (some ⟨gw, 0, none⟩), .int .i64 (n : Int), .int .i64 most] W fun e w' => e = .returned (.tuple #[]) ∧ Wr w' gw B (xs ++ enc n) (lg || decide ((n : Int) > most)) ∧ Below B w0 w' ∧ Kp gw W w' := by
  obtain ⟨A, c, hblk, hR⟩ := hW.at
  have HL := fun b => hW.long b
  have HW := Aside0.mk HL
  have HB0 := Aside0.mk hb0
  have hu := u64_nat hn
  have hc0 := (blk_cell hblk 0).trans rfl
  have hc1 := (blk_cell hblk 1).trans rfl
  have hf1 := blk_frozen hblk 1
  have hlt := lt_of_blk hblk
  clear HL hW hb0 hR
  cases lg with
  | true =>
    go_enter Try.func23, Try.ntmps23
    go_wp2_with (first | (go_at_call 22; (with_reducible refine (word_calls gw B xs true n w0 _ ?s1 ?s2 ?s3 ?s4 ?s5).mono ?_); (case s1 => exact HW.out true); (case s2 => exact HB0.out.setCell hB _); (case s3 => exact hB); (case s4 => omega); (case s5 => exact hl); rintro e w3 ⟨rfl, hW3, hB3, hK3⟩))
    go_end0
    exact ⟨rfl, by rw [Bool.true_or]; exact hW3, hB3, (Kp.set 1 _).trans hK3⟩
  | false =>
    by_cases hm : (n : Int) > most
    · have hmb : decide ((n : Int) > most) = true := decide_eq_true hm
      go_enter Try.func23, Try.ntmps23
      go_wp2_with (first | (go_at_call 22; (with_reducible refine (word_calls gw B xs true n w0 _ ?s1 ?s2 ?s3 ?s4 ?s5).mono ?_); (case s1 => exact HW.out true); (case s2 => exact HB0.out.setCell hB _); (case s3 => exact hB); (case s4 => omega); (case s5 => exact hl); rintro e w3 ⟨rfl, hW3, hB3, hK3⟩))
      go_end0
      exact ⟨rfl, by rw [Bool.false_or, hmb]; exact hW3, hB3, (Kp.set 1 _).trans hK3⟩
    · have hmb : decide ((n : Int) > most) = false := decide_eq_false hm
      go_enter Try.func23, Try.ntmps23
      go_wp2_with (first | (go_at_call 22; (with_reducible refine (word_calls gw B xs false n w0 _ ?s1 ?s2 ?s3 ?s4 ?s5).mono ?_); (case s1 => exact HW.out false); (case s2 => exact HB0.out.setCell hB _); (case s3 => exact hB); (case s4 => omega); (case s5 => exact hl); rintro e w3 ⟨rfl, hW3, hB3, hK3⟩))
      go_end0
      exact ⟨rfl, by rw [Bool.false_or, hmb]; exact hW3, hB3, (Kp.set 1 _).trans hK3⟩
def lst (l : List Int) : List Int := enc l.length ++ nums l
set_option maxHeartbeats 8000000 in
set_option maxRecDepth 100000 in
theorem list_calls (gw B : Nat) (xs : List Int) (lg : Bool) (A : Option Addr) (c : Nat) (l : List Int) (w0 W : World) (hW : Wr W gw B xs lg) (hb0 : Below B w0 W) (hB : B ≤ gw) (hC : ∀ W', Kp gw W W' → Below B w0 W' → Kd.C (Kd.int .i64) W' A l.length l) (hi : ints l) (hl : xs.length + 10 * l.length ≤ 900000000) :
    Calls Try.prog 24 #[.pointer (some ⟨gw, 0, none⟩), .slice A l.length c] W fun e w' => e = .returned (.tuple #[]) ∧ Wr w' gw B (xs ++ lst l) (lg || decide ((l.length : Int) > 256)) ∧ Below B w0 w' ∧ Kp gw W w' := by
  have HW := Aside0.mk hW
  have HB0 := Aside0.mk hb0
  have HC := Aside0.mk hC
  have HI := Aside0.mk hi
  have hmx := Kd.C_max (hC W (Kp.refl _ _) hb0)
  have hel := enc_len10 (show l.length < 18446744073709551616 by omega)
  clear hW hb0 hC hi
  go_enter Try.func24, Try.ntmps24
  go_wp2_with (first | (go_at_call 23; (with_reducible refine (many_calls gw B xs lg l.length 256 w0 _ HW.out HB0.out hB (by omega) (by omega)).mono ?_); rintro e w3 ⟨rfl, hW3, hB3, hK3⟩) | (go_at_call 21; (with_reducible refine (nums_calls gw B (xs ++ enc l.length) (lg || decide ((l.length : Int) > 256)) A c l w0 w3 hW3 hB3 hB (fun W' h1 h2 => HC.out W' (hK3.trans h1) h2) HI.out (by simp only [List.length_append]; omega)).mono ?_); rintro e w4 ⟨rfl, hW4, hB4, hK4⟩))
  go_end0
  exact ⟨rfl, by unfold lst; rw [← List.append_assoc]; exact hW4, hB4, hK3.trans hK4⟩
set_option maxHeartbeats 8000000 in
set_option maxRecDepth 100000 in
theorem bytes_calls (gw B : Nat) (xs : List Int) (lg : Bool) (w0 W : World) (hW : Wr W gw B xs lg) (hb0 : Below B w0 W) :
    Calls Try.prog 25 #[.pointer (some ⟨gw, 0, none⟩)] W fun e w' => ∃ v0_ : Value, e = .returned (.tuple #[v0_, .int .i64 (if lg = true then 21 else 0)]) ∧ (Kd.int .u8).R 5 w' B (fun _ => True) v0_ (if lg = true then [] else xs) ∧ Below B w0 w' := by
  obtain ⟨A, c, hblk, hR⟩ := hW.at
  have HR := Aside0.mk hR
  have HB0 := Aside0.mk hb0
  have hc0 := (blk_cell hblk 0).trans rfl
  have hc1 := (blk_cell hblk 1).trans rfl
  clear hW hb0 hR
  cases lg with
  | true =>
    go_enter Try.func25, Try.ntmps25
    go_wp2
    go_ret2
    exact ⟨.slice none 0 0, rfl, Kd.R_nil _ _ _ _ _, HB0.out⟩
  | false =>
    go_enter Try.func25, Try.ntmps25
    go_wp2
    go_ret2
    exact ⟨.slice A xs.length c, rfl, HR.out, HB0.out⟩
def evB (e : S56) : List Int := nums [e.f0, e.f1, e.f2, e.f3] ++ enc e.f4.toNat ++ nums [e.f5] ++ lst e.f6
def evs (l : List S56) : List Int := (l.map evB).flatten
def evLong (l : List S56) : Bool := l.any fun e => decide ((e.f6.length : Int) > 256)
def i64b (n : Int) : Bool := decide (-9223372036854775808 ≤ n) && decide (n ≤ 9223372036854775807)
def okE (e : S56) : Bool := i64b e.f0 && i64b e.f1 && i64b e.f2 && i64b e.f3 && i64b e.f5 && decide (0 ≤ e.f4) && decide (e.f4 < 18446744073709551616) && decide (e.f6.length ≤ 1000) && e.f6.all i64b
theorem i64b_iff (n : Int) : i64b n = true ↔ (-9223372036854775808 ≤ n ∧ n ≤ 9223372036854775807) := by simp [i64b]
def pack_Log.f (l0 : List S56) : Option (List Int × Int) := if l0.length ≤ 1000 then (if l0.all okE = true then (if (decide ((l0.length : Int) > 65536) || evLong l0) = true then some ([], 21) else some (enc l0.length ++ evs l0, 0)) else none) else none
theorem evs_take (l : List S56) (i : Nat) (h : i < l.length) : evs (l.take (i + 1)) = evs (l.take i) ++ evB (rd_T56 l (i : Int)) := by
  unfold evs
  rw [List.take_succ_eq_append_getElem h, List.map_append, List.flatten_append]
  simp [rd_T56, List.getD_eq_getElem?_getD, h]
theorem evLong_take (l : List S56) (i : Nat) (h : i < l.length) : evLong (l.take (i + 1)) = (evLong (l.take i) || decide (((rd_T56 l (i : Int)).f6.length : Int) > 256)) := by
  unfold evLong
  rw [List.take_succ_eq_append_getElem h, List.any_append]
  simp [rd_T56, List.getD_eq_getElem?_getD, h]
theorem okE_parts {e : S56} (h : okE e = true) : ints [e.f0, e.f1, e.f2, e.f3] ∧ ints [e.f5] ∧ 0 ≤ e.f4 ∧ e.f4 < 18446744073709551616 ∧ e.f6.length ≤ 1000 ∧ ints e.f6 := by
  simp only [okE, Bool.and_eq_true, decide_eq_true_eq, i64b_iff, List.all_eq_true] at h
  obtain ⟨⟨⟨⟨⟨⟨⟨⟨h0, h1⟩, h2⟩, h3⟩, h5⟩, h4⟩, h4'⟩, h6⟩, h7⟩ := h
  refine ⟨fun n hn => ?_, fun n hn => ?_, h4, h4', h6, fun n hn => h7 n hn⟩
  · simp only [List.mem_cons, List.not_mem_nil, or_false] at hn
    rcases hn with rfl | rfl | rfl | rfl <;> assumption
  · simp only [List.mem_cons, List.not_mem_nil, or_false] at hn
    subst hn; exact h5
theorem lst_len (l : List Int) (h : ints l) (h2 : l.length ≤ 1000) : (lst l).length ≤ 10010 := by
  unfold lst
  rw [List.length_append]
  have := enc_len10 (show l.length < 18446744073709551616 by omega)
  have := nums_len l h
  omega
theorem evB_len {e : S56} (h : okE e = true) : (evB e).length ≤ 10100 := by
  obtain ⟨h1, h2, h3, h4, h5, h6⟩ := okE_parts h
  unfold evB
  simp only [List.length_append]
  have a1 := nums_len _ h1
  have a2 := nums_len _ h2
  have a3 := enc_len10 (show e.f4.toNat < 18446744073709551616 by omega)
  have a4 := lst_len _ h6 h5
  simp only [List.length_cons, List.length_nil] at a1 a2
  omega
theorem evs_len (l : List S56) (h : ∀ e ∈ l, okE e = true) : (evs l).length ≤ 10100 * l.length := by
  induction l with
  | nil => simp [evs]
  | cons e l ih =>
    have h1 := evB_len (h e (List.mem_cons_self ..))
    have h2 := ih (fun x hx => h x (List.mem_cons_of_mem _ hx))
    have : evs (e :: l) = evB e ++ evs l := rfl
    rw [this, List.length_append, List.length_cons]
    omega
/-- a row of whole numbers in a block of its own is read -/
theorem lit_C {W : World} {g : Nat} (l : List Int) (h : W.heap[g]? = some (.cells (l.map (Value.int .i64)).toArray 3 (0, 0))) (hl : l.length ≤ 1000) : Kd.C (Kd.int .i64) W (some ⟨g, 0, none⟩) l.length l := by
  have hr : (Kd.int .i64).R 3 W 0 (fun _ => True) (.slice (some ⟨g, 0, none⟩) l.length l.length) l := Kd.R_of_own ⟨by rw [encs_length, Nat.mul_one], .inr ⟨g, l.length, _, rfl, Nat.zero_le _, h, Nat.le_refl _, by simp only [maxLen]; omega, by simp, by rw [Nat.mul_one]; exact List.take_of_length_le (by simp)⟩⟩ (fun _ _ => trivial)
  exact (Kd.R_reads' hr).2.2
/-- w.nums(..) of a row that was just made -/
theorem lit_nums (gw : Nat) (xs : List Int) (lg : Bool) (l : List Int) (k : Nat) (hk : l.length = k) (w0 W : World) (hW : Wr W gw gw xs lg) (hb : Below gw w0 W) (hlt : gw < W.heap.size) (hi : ints l) (hl : l.length ≤ 1000) (hx : xs.length ≤ 100000000) :
    Calls Try.prog 21 #[.pointer (some ⟨gw, 0, none⟩), .slice (some ⟨W.heap.size, 0, none⟩) k k] (W.alloc (.cells (l.map (Value.int .i64)).toArray 3)) fun e w' => e = .returned (.tuple #[]) ∧ Wr w' gw gw (xs ++ nums l) lg ∧ Below gw w0 w' ∧ Kp gw W w' := by
  subst hk
  have hba := below_alloc (Below.refl W.heap.size W) (.cells (l.map (Value.int .i64)).toArray 3)
  refine (nums_calls gw gw xs lg _ l.length l w0 _ (hW.next hba) (hb.trans (hba.mono (by omega))) (Nat.le_refl _) (fun W' h1 _ => lit_C l (h1 _ _ _ (by omega) (by decide) (blk_new _ _)) hl) hi (by omega)).mono ?_
  rintro e w' ⟨rfl, h1, h2, h3⟩
  exact ⟨rfl, h1, h2, (Kp.below hba).trans h3⟩
set_option maxHeartbeats 8000000 in
set_option maxRecDepth 100000 in
theorem pack_Log.calls (A0 : Option Addr) (c0 : Nat) (l0 : List S56) (r1 : List Int) (r2 : Int) (w : World) (hr0 : Kd.C k56 w A0 l0.length l0) (hc0 : l0.length ≤ c0) (h : pack_Log.f l0 = some (r1, r2)) :
    Calls Try.prog 12 #[.slice A0 l0.length c0] w fun e w' => ∃ v0_ : Value, e = .returned (.tuple #[v0_, .int .i64 r2]) ∧ Kd.R (Kd.int .u8) 5 w' w.heap.size (fun _ => True) v0_ r1 ∧ Below w.heap.size w w' := by
  have hu56 := Try.underlying56
  have hu59 := Try.underlying59
  have HR1 := Aside0.mk hr0
  have k1 : l0.length ≤ 1000 := by
    by_cases k : l0.length ≤ 1000
    · exact k
    · unfold pack_Log.f at h; rw [if_neg k] at h; exact absurd h (by simp)
  have k2 : l0.all okE = true := by
    by_cases k : l0.all okE = true
    · exact k
    · unfold pack_Log.f at h; rw [if_pos k1, if_neg k] at h; exact absurd h (by simp)
  unfold pack_Log.f at h
  rw [if_pos k1, if_pos k2] at h
  have H := Aside0.mk h
  have K2 := Aside0.mk k2
  clear h hr0 k2
  have hel := enc_len10 (show l0.length < 18446744073709551616 by omega)
  go_enter Try.func12, Try.ntmps12
  go_upto_region 2 with (fail)
  have hWr : Wr (w.alloc (.cells #[.slice none 0 0, .bool false] 59)) w.heap.size w.heap.size [] false := ⟨_, blk_new _ _, Kd.R_nil _ _ _ _ _⟩
  have hBr : Below w.heap.size w (w.alloc (.cells #[.slice none 0 0, .bool false] 59)) := below_alloc (Below.refl _ _) _
  generalize w.alloc (.cells #[.slice none 0 0, .bool false] 59) = W1 at *
  have HG : Aside0 (w.heap.size ≤ w.heap.size) := ⟨Nat.le_refl _⟩
  have HBr := Aside0.mk hBr
  have HWr := Aside0.mk hWr
  clear hBr hWr
  generalize hgw : w.heap.size = gw at HWr HG HBr ⊢
  go_wp2_with (first | (go_at_call 23; (with_reducible refine (many_calls gw gw [] false l0.length 65536 w _ HWr.out HBr.out HG.out (by omega) (by simp)).mono ?_); rintro e W2 ⟨rfl, hW2, hB2, hK2⟩))
  have HW2 := Aside0.mk hW2
  have HB2 := Aside0.mk hB2
  clear hW2 hB2 hK2 HWr HBr
  rw [Bool.false_or, List.nil_append] at HW2
  go_loopg [15] (l0.length + 1) (fun kq v15 wc => ∃ (i : Nat), i ≤ l0.length ∧ l0.length < i + kq ∧ v15 = .int .i64 (i : Int) ∧ Aside0 (Wr wc gw gw (enc l0.length ++ evs (l0.take i)) (decide ((l0.length : Int) > 65536) || evLong (l0.take i))) ∧ Aside0 (Below gw w wc))
  case atStart => exact ⟨0, by omega, by omega, rfl, ⟨by rw [List.take_zero]; simpa [evs, evLong] using HW2.out⟩, HB2⟩
  case round =>
    clear HW2 HB2
    obtain ⟨i, hi, hik, rfl, HW, HB⟩ := hrel
    cases gk with
    | zero => omega
    | succ g =>
    by_cases hlt : i < l0.length
    · have c1b : decide ((i : Int) < (l0.length : Int)) = true := decide_eq_true (by omega)
      have q1 : (0 : Int) ≤ (i : Int) := by omega
      have q2 : (i : Int) < (l0.length : Int) := by omega
      obtain ⟨ad, A6, c6, e1, hx0, hx1, hx2, hx3, hx4, hx5, hx6, hl6, g6⟩ := at_T56 HR1.out (i : Int) q1 q2
      cases e1
      have tr : ∀ {a : Addr} {v : Value}, w.cell? a = some v → wr.cell? a = some v := fun {a v} hx => (HB.out.cell (by have := World.block_lt_of_cell? w _ hx; omega)).trans hx
      replace hx0 := tr hx0
      replace hx1 := tr hx1
      replace hx2 := tr hx2
      replace hx3 := tr hx3
      replace hx4 := tr hx4
      replace hx5 := tr hx5
      replace hx6 := tr hx6
      clear tr
      have G6 : Aside0 (∀ W', Below gw w W' → Kd.C (Kd.int .i64) W' A6 (rd_T56 l0 (i : Int)).f6.length (rd_T56 l0 (i : Int)).f6) := ⟨fun W' hb => Kd.C_below g6 (by rw [hgw]; exact hb)⟩
      simp only [Int.toNat_natCast] at hx0 hx1 hx2 hx3 hx4 hx5 hx6
      have hok : okE (rd_T56 l0 (i : Int)) = true := by
        have := List.all_eq_true.1 K2.out l0[i] (List.getElem_mem hlt)
        simpa [rd_T56, List.getD_eq_getElem?_getD, hlt] using this
      have HT := Aside0.mk (evs_take l0 i hlt)
      have HL := Aside0.mk (evLong_take l0 i hlt)
      have hev := evs_len (l0.take i) (fun e he => List.all_eq_true.1 K2.out e (List.mem_of_mem_take he))
      have hlt2 : (l0.take i).length ≤ 1000 := by simp; omega
      clear g6
      generalize rd_T56 l0 (i : Int) = a at *
      obtain ⟨o1, o2, o3, o4, o5, o6⟩ := okE_parts hok
      have O1 := Aside0.mk o1
      have O2 := Aside0.mk o2
      have O6 := Aside0.mk o6
      have hbl := evB_len hok
      clear o1 o2 o6 hok
      obtain ⟨n4, hn4⟩ : ∃ n4 : Nat, a.f4 = (n4 : Int) := ⟨a.f4.toNat, by omega⟩
      rw [hn4] at hx4
      go_upto_region 6 with (fail)
      have hE : (wr.alloc (.cells #[.int .i64 a.f0, .int .i64 a.f1, .int .i64 a.f2, .int .i64 a.f3, .int .u64 (n4 : Int), .int .i64 a.f5, .slice A6 a.f6.length c6] 56)).heap[wr.heap.size]? = _ := blk_new _ _
      have hWa := HW.out.next (below_alloc (Below.refl wr.heap.size wr) (.cells #[.int .i64 a.f0, .int .i64 a.f1, .int .i64 a.f2, .int .i64 a.f3, .int .u64 (n4 : Int), .int .i64 a.f5, .slice A6 a.f6.length c6] 56))
      have hgl : gw < wr.heap.size := by obtain ⟨v, h1, _⟩ := HW.out; exact lt_of_blk h1
      have hBa := HB.out.trans ((below_alloc (Below.refl wr.heap.size wr) (.cells #[.int .i64 a.f0, .int .i64 a.f1, .int .i64 a.f2, .int .i64 a.f3, .int .u64 (n4 : Int), .int .i64 a.f5, .slice A6 a.f6.length c6] 56)).mono (by omega))
      have hga : wr.heap.size ≠ gw := by omega
      clear hx0 hx1 hx2 hx3 hx4 hx5 hx6
      generalize wr.alloc (.cells #[.int .i64 a.f0, .int .i64 a.f1, .int .i64 a.f2, .int .i64 a.f3, .int .u64 (n4 : Int), .int .i64 a.f5, .slice A6 a.f6.length c6] 56) = W3 at *
      obtain ⟨ga, hgae⟩ : ∃ ga, wr.heap.size = ga := ⟨_, rfl⟩
      rw [hgae] at hE hga hgl ⊢
      clear hgae
      have hc0 := (blk_cell hE 0).trans rfl
      have hc1 := (blk_cell hE 1).trans rfl
      have hc2 := (blk_cell hE 2).trans rfl
      have hc3 := (blk_cell hE 3).trans rfl
      have HE := Aside0.mk hE
      have HWa := Aside0.mk hWa
      have HBa := Aside0.mk hBa
      have hsz3 : gw < W3.heap.size := by obtain ⟨v, h1, _⟩ := hWa; exact lt_of_blk h1
      clear hE hWa hBa HW HB
      go_upto_region 7 with (first | (go_at_call 21; (refine (lit_nums gw _ _ [a.f0, a.f1, a.f2, a.f3] 4 rfl w W3 HWa.out HBa.out hsz3 O1.out (by simp) (by simp only [List.length_append]; omega)).mono ?_); rintro e W4 ⟨rfl, hW4, hB4, hK4⟩))
      have hE4 := hK4 ga _ 56 hga (by decide) HE.out
      have hc4 := (blk_cell hE4 4).trans rfl
      have HW4 := Aside0.mk hW4
      have HB4 := Aside0.mk hB4
      have HE4 := Aside0.mk hE4
      have hl4 : (nums [a.f0, a.f1, a.f2, a.f3]).length ≤ 40 := nums_len _ O1.out
      clear hW4 hB4 hE4 hK4 hc0 hc1 hc2 hc3 HWa HBa hsz3 HE
      go_upto_region 8 with (first | (go_at_call 22; (with_reducible refine (word_calls gw gw _ _ n4 w W4 HW4.out HB4.out (Nat.le_refl _) (by omega) (by simp only [List.length_append]; omega)).mono ?_); rintro e W5 ⟨rfl, hW5, hB5, hK5⟩))
      have hE5 := hK5 ga _ 56 hga (by decide) HE4.out
      have hc5 := (blk_cell hE5 5).trans rfl
      have hsz5 : gw < W5.heap.size := by obtain ⟨v, h1, _⟩ := hW5; exact lt_of_blk h1
      have HW5 := Aside0.mk hW5
      have HB5 := Aside0.mk hB5
      have HE5 := Aside0.mk hE5
      have hl5 := enc_len10 (show n4 < 18446744073709551616 by omega)
      clear hW5 hB5 hE5 hK5 hc4 HW4 HB4 HE4
      go_upto_region 9 with (first | (go_at_call 21; (refine (lit_nums gw _ _ [a.f5] 1 rfl w W5 HW5.out HB5.out hsz5 O2.out (by simp) (by simp only [List.length_append]; omega)).mono ?_); rintro e W6 ⟨rfl, hW6, hB6, hK6⟩))
      have hE6 := hK6 ga _ 56 hga (by decide) HE5.out
      have hc6 := (blk_cell hE6 6).trans rfl
      have HW6 := Aside0.mk hW6
      have HB6 := Aside0.mk hB6
      have hl6 : (nums [a.f5]).length ≤ 10 := nums_len _ O2.out
      clear hW6 hB6 hE6 hK6 hc5 HW5 HB5 HE5 hsz5
      go_wp2_with (first | (go_at_call 24; (with_reducible refine (list_calls gw gw _ _ A6 c6 a.f6 w W6 HW6.out HB6.out (Nat.le_refl _) (fun W' _ h2 => G6.out W' h2) O6.out (by simp only [List.length_append]; omega)).mono ?_); rintro e W7 ⟨rfl, hW7, hB7, hK7⟩))
      go_roundg g
      case measure => omega
      case rel => exact ⟨i + 1, by omega, by omega, by first | rfl | rw [wrap_succ i (by omega)], ⟨by
        rw [HT.out, HL.out, ← Bool.or_assoc]
        have e1 : evB a = nums [a.f0, a.f1, a.f2, a.f3] ++ enc n4 ++ nums [a.f5] ++ lst a.f6 := by unfold evB; rw [hn4, Int.toNat_natCast]
        rw [e1]
        simpa only [List.append_assoc] using hW7⟩, ⟨hB7⟩⟩
    · have c1b : decide ((i : Int) < (l0.length : Int)) = false := decide_eq_false (by omega)
      obtain rfl : i = l0.length := by omega
      rw [List.take_length] at HW
      have hH := H.out
      cases hlg : (decide ((l0.length : Int) > 65536) || evLong l0) with
      | true =>
        rw [hlg, if_pos rfl] at hH
        obtain ⟨rfl, rfl⟩ : r1 = [] ∧ r2 = 21 := by simpa [eq_comm] using hH
        rw [hlg] at HW
        have hbt := bytes_calls gw gw _ true w wr HW.out HB.out
        simp only [if_true] at hbt
        go_wp2_with (first | (go_at_call 25; (with_reducible refine hbt.mono ?_); rintro e W3 ⟨v0, rfl, hv0, hB3⟩))
        go_ret2
        exact ⟨v0, rfl, by rw [hgw]; exact hv0, by rw [hgw]; exact hB3⟩
      | false =>
        rw [hlg, if_neg (by decide)] at hH
        obtain ⟨rfl, rfl⟩ : r1 = enc l0.length ++ evs l0 ∧ r2 = 0 := by simpa [eq_comm] using hH
        rw [hlg] at HW
        have hbt := bytes_calls gw gw _ false w wr HW.out HB.out
        simp only [Bool.false_eq_true, if_false] at hbt
        go_wp2_with (first | (go_at_call 25; (with_reducible refine hbt.mono ?_); rintro e W3 ⟨v0, rfl, hv0, hB3⟩))
        go_ret2
        exact ⟨v0, rfl, by rw [hgw]; exact hv0, by rw [hgw]; exact hB3⟩

end Go.Proofs.Ytoobhpgkecplmaa.QPackReads
