/- It is proved that the law OctetWrites of sakialaw07 answers true for every input: any word, number and list as bytes, behind any others, are what the reference tells. Conditions: none. -/
import Derived.Test.YtoabkmogmekdkaaQOctetWritesx3
import Derived.Test.YtoabkmogmekdkaaWSized
import Derived.Laws.BitsAllLaws
namespace Go.Proofs.Ytoabkmogmekdkaa.PrintWords
/-- The row's word, under the name by which the row calls it. -/
theorem sized_ints {H : Type} {enc : TypeId × Value → H} {P : Program} {W : World} {base : Nat} {spare : Nat → Bool} {held : Bool} {t e : TypeId} {k : IntKind} {a : Option Addr} {len cap : Nat} {d : DataW H} {ps : List MemPlace} {ts : List TypeId} {ds : List (DataW H)} {j : Nat}
    (hsz : (DataW.weightsEach P ts ds).all (· ≤ reachBytes) = true) (ht : ts[j]? = some t) (hd : ds[j]? = some d) (hu : P.underlying t = some (.slice e)) (he : P.underlying e = some (.int k)) (hc : P.cellsOf e = 1) {B : Nat} (hB : P.bytesOf e = B)
    (h : DataW.Trod enc P W base spare held t (.slice a len cap) d ps) : len * B ≤ 140737488351232 :=
  Go.Proofs.YtoabkmogmekdkaaW.PrintWords.sized_ints hsz ht hd hu he hc hB h
end Go.Proofs.Ytoabkmogmekdkaa.PrintWords
namespace Go.Proofs.Ytoabkmogmekdkaa.Pure
open Go Go.RowKit Go.Proofs.Ytoabkmogmekdkaa.QOctetWrites Go.Proofs.YtoabkmogmekdkaaW.PrintWords Go.Proofs.YtoabkmogmekdkaaW.PrintLast Go.Proofs.YtoabkmogmekdkaaW.PrintMore
set_option linter.unusedVariables false
set_option linter.unusedSimpArgs false

/-! a word's bytes -/
def enc (x : Nat) : List Int := if x < 128 then [(x : Int)] else ((128 + x % 128 : Nat) : Int) :: enc (x / 128)
termination_by x
decreasing_by omega

theorem enc_small {x : Nat} (h : x < 128) : enc x = [(x : Int)] := by rw [enc, if_pos h]
theorem enc_big {x : Nat} (h : ¬ x < 128) : enc x = ((128 + x % 128 : Nat) : Int) :: enc (x / 128) := by rw [enc, if_neg h]
theorem enc_ind {p : Nat → Prop} (h0 : ∀ x, x < 128 → p x) (h1 : ∀ x, ¬ x < 128 → p (x / 128) → p x) (x : Nat) : p x := by
  induction x using Nat.strongRecOn with
  | _ x ih =>
    by_cases h : x < 128
    · exact h0 x h
    · exact h1 x h (ih _ (by omega))
theorem enc_range (x : Nat) : ∀ c ∈ enc x, 0 ≤ c ∧ c ≤ 255 := by
  induction x using enc_ind with
  | h0 x h => rw [enc_small h]; intro c hc; simp at hc; omega
  | h1 x h ih =>
    rw [enc_big h]
    intro c hc
    rcases List.mem_cons.1 hc with hc | hc
    · omega
    · exact ih c hc
theorem enc_pos (x : Nat) : 0 < (enc x).length := by
  by_cases h : x < 128
  · rw [enc_small h]; simp
  · rw [enc_big h]; simp
theorem enc_len (n : Nat) : ∀ x : Nat, x < 128 ^ (n + 1) → (enc x).length ≤ n + 1 := by
  induction n with
  | zero => intro x h; rw [enc_small (by simpa using h)]; simp
  | succ n ih =>
    intro x h
    by_cases hx : x < 128
    · rw [enc_small hx]; simp
    · rw [enc_big hx]
      have := ih (x / 128) (by rw [Nat.div_lt_iff_lt_mul (by decide)]; rw [Nat.pow_succ] at h; exact h)
      simp; omega
theorem enc_len10 {x : Nat} (h : x < 18446744073709551616) : (enc x).length ≤ 10 := enc_len 9 x (by omega)

/-- A word off the front, its place among the ten being i; none: there is none. -/
def dec : Nat → List Int → Option (Nat × Nat)
  | _, [] => none
  | i, c :: r => if i = 9 ∧ 1 < c then none else if c = 0 ∧ 1 ≤ i then none else if c < 128 then some (c.toNat, 1) else
      match dec (i + 1) r with
      | none => none
      | some (y, n) => some ((c - 128).toNat + 128 * y, n + 1)

theorem pow7 (i : Nat) : 2 ^ (7 * (i + 1)) = 128 * 2 ^ (7 * i) := by rw [show 7 * (i + 1) = 7 * i + 7 by omega, Nat.pow_add, Nat.mul_comm]
theorem pow7_9 {i : Nat} (h : i ≤ 9) : 2 ^ (7 * i) ≤ 9223372036854775808 := by
  have := Nat.pow_le_pow_right (n := 2) (by decide) (show 7 * i ≤ 63 by omega)
  exact this
theorem pow7_8 {i : Nat} (h : i ≤ 8) : 2 ^ (7 * i) ≤ 72057594037927936 := by
  have := Nat.pow_le_pow_right (n := 2) (by decide) (show 7 * i ≤ 56 by omega)
  exact this
theorem pow7_pos (i : Nat) : 0 < 2 ^ (7 * i) := Nat.two_pow_pos _

/-- What a place leaves room for. -/
def room (i y : Nat) : Prop := y * 2 ^ (7 * i) < 18446744073709551616
theorem room_zero {y : Nat} : room 0 y ↔ y < 18446744073709551616 := by simp [room]
theorem room_next {i y : Nat} : room (i + 1) (y / 128) ↔ (y / 128) * 128 * 2 ^ (7 * i) < 18446744073709551616 := by
  unfold room
  rw [pow7, Nat.mul_assoc]
theorem room_9 {y : Nat} (h : room 9 y) : y ≤ 1 := by
  unfold room at h
  have e : 2 ^ (7 * 9) = 9223372036854775808 := by decide
  rw [e] at h
  omega

theorem dec_enc (y : Nat) : ∀ (i : Nat) (r : List Int), i ≤ 9 → room i y → (1 ≤ i → 1 ≤ y) → dec i (enc y ++ r) = some (y, (enc y).length) := by
  induction y using enc_ind with
  | h0 y h =>
    intro i r hi hr h1
    rw [enc_small h]
    simp only [List.singleton_append, dec]
    rw [if_neg (by rintro ⟨rfl, h2⟩; have := room_9 hr; omega), if_neg (by omega), if_pos (by omega)]
    simp
  | h1 y h ih =>
    intro i r hi hr h1
    have hi9 : i ≠ 9 := by
      rintro rfl
      have := room_9 hr
      omega
    have hr' : room (i + 1) (y / 128) := by
      rw [room_next]
      unfold room at hr
      exact Nat.lt_of_le_of_lt (Nat.mul_le_mul_right _ (Nat.div_mul_le_self y 128)) hr
    have := ih (i + 1) r (by omega) hr' (by omega)
    rw [enc_big h]
    simp only [List.cons_append, dec]
    rw [if_neg (by omega), if_neg (by omega), if_neg (by omega), this]
    simp only [Option.some.injEq, Prod.mk.injEq, List.length_cons, and_true]
    omega

theorem room_step {i y c : Nat} (hi : i ≤ 8) (h : room (i + 1) y) (hc : c ≤ 127) : room i (c + 128 * y) := by
  unfold room at h ⊢
  obtain ⟨Q, hQ⟩ : ∃ Q : Nat, Q * 2 ^ (7 * (i + 1)) = 18446744073709551616 := ⟨2 ^ (64 - 7 * (i + 1)), by rw [← Nat.pow_add, show 64 - 7 * (i + 1) + 7 * (i + 1) = 64 by omega]⟩
  rw [← hQ] at h ⊢
  have hp := Nat.two_pow_pos (7 * (i + 1))
  have hy : y < Q := Nat.lt_of_mul_lt_mul_right h
  rw [pow7]
  have p0 := pow7_pos i
  generalize 2 ^ (7 * i) = P at p0
  have b1 : (c + 128 * y) * P < (128 + 128 * y) * P := Nat.mul_lt_mul_of_pos_right (by omega) p0
  have b2 : (y + 1) * (128 * P) ≤ Q * (128 * P) := Nat.mul_le_mul_right _ hy
  have b3 : (128 + 128 * y) * P = (y + 1) * (128 * P) := by
    rw [show 128 + 128 * y = (y + 1) * 128 by omega, Nat.mul_assoc]
  omega

theorem dec_sound (b : List Int) : ∀ (i y n : Nat), i ≤ 9 → (∀ c ∈ b, 0 ≤ c ∧ c ≤ 255) → dec i b = some (y, n) → n = (enc y).length ∧ (∃ r, b = enc y ++ r) ∧ room i y ∧ (1 ≤ i → 1 ≤ y) := by
  induction b with
  | nil => intro i y n _ _ h; simp [dec] at h
  | cons c r ih =>
    intro i y n hi hb h
    have hc := hb c (by simp)
    simp only [dec] at h
    by_cases h1 : i = 9 ∧ 1 < c
    · rw [if_pos h1] at h; cases h
    · rw [if_neg h1] at h
      by_cases h2 : c = 0 ∧ 1 ≤ i
      · rw [if_pos h2] at h; cases h
      · rw [if_neg h2] at h
        by_cases h3 : c < 128
        · rw [if_pos h3] at h
          simp only [Option.some.injEq, Prod.mk.injEq] at h
          obtain ⟨rfl, rfl⟩ := h
          have e : enc c.toNat = [c] := by rw [enc_small (by omega), Int.toNat_of_nonneg hc.1]
          refine ⟨by rw [e]; rfl, ⟨r, by rw [e]; rfl⟩, ?_, by omega⟩
          unfold room
          by_cases h9 : i = 9
          · subst h9
            have e : 2 ^ (7 * 9) = 9223372036854775808 := by decide
            rw [e]; omega
          · have a := pow7_8 (show i ≤ 8 by omega)
            have b := Nat.mul_le_mul (show c.toNat ≤ 127 by omega) a
            omega
        · rw [if_neg h3] at h
          cases hd : dec (i + 1) r with
          | none => rw [hd] at h; cases h
          | some p =>
            obtain ⟨y', n'⟩ := p
            rw [hd] at h
            simp only [Option.some.injEq, Prod.mk.injEq] at h
            obtain ⟨rfl, rfl⟩ := h
            obtain ⟨a1, ⟨r', a2⟩, a3, a4⟩ := ih (i + 1) y' n' (by omega) (fun c hc => hb c (by simp [hc])) hd
            have a4 := a4 (by omega)
            have e : enc ((c - 128).toNat + 128 * y') = c :: enc y' := by
              rw [enc_big (by omega), show ((c - 128).toNat + 128 * y') / 128 = y' by omega]
              congr 1
              omega
            refine ⟨by rw [e, a1]; rfl, ⟨r', by rw [e, a2]; rfl⟩, ?_, by omega⟩
            have hi8 : i ≤ 8 := by
              by_cases h9 : i = 9
              · subst h9
                exfalso
                have e9 : c ≤ 1 := by
                  by_cases hh : 1 < c
                  · exact absurd ⟨rfl, hh⟩ h1
                  · omega
                omega
              · omega
            exact room_step hi8 a3 (by omega)


/-! numbers as words -/
def zagI (x : Nat) : Int := if x % 2 = 1 then -((x / 2 : Nat) : Int) - 1 else ((x / 2 : Nat) : Int)
def zigI (n : Int) : Nat := if n < 0 then (-2 * n - 1).toNat else (2 * n).toNat
theorem zig_zag (x : Nat) : zigI (zagI x) = x := by
  unfold zagI
  split
  · unfold zigI; rw [if_pos (by omega)]; omega
  · unfold zigI; rw [if_neg (by omega)]; omega
theorem zag_zig (n : Int) : zagI (zigI n) = n := by
  unfold zigI
  split
  · unfold zagI; rw [if_pos (by omega)]; omega
  · unfold zagI; rw [if_neg (by omega)]; omega
theorem zig_lt {n : Int} (h0 : -9223372036854775808 ≤ n) (h1 : n ≤ 9223372036854775807) : zigI n < 18446744073709551616 := by
  unfold zigI
  split <;> omega
theorem zag_range {x : Nat} (h : x < 18446744073709551616) : -9223372036854775808 ≤ zagI x ∧ zagI x ≤ 9223372036854775807 := by
  unfold zagI
  split <;> omega
theorem w_u64 (n : Int) : IntKind.u64.wrap n = n % 18446744073709551616 := by simp [IntKind.wrap, IntKind.bits, IntKind.signed]
theorem ones64 : BitVec.ofInt 64 (-1) = BitVec.allOnes 64 := by decide
theorem ones64' : BitVec.ofInt 64 18446744073709551615 = BitVec.allOnes 64 := by decide
theorem xor_i64_neg {a : Nat} (h : a < 9223372036854775808) : Go.bits .xor .i64 (a : Int) (-1) = -(a : Int) - 1 := by
  show IntKind.i64.wrap ((BitVec.ofInt 64 (a : Int) ^^^ BitVec.ofInt 64 (-1)).toNat : Int) = _
  rw [ones64, BitVec.xor_allOnes, BitVec.toNat_not, BitVec.ofInt_natCast, BitVec.toNat_ofNat, Nat.mod_eq_of_lt (by omega), IntKind.wrap_i64]
  omega
theorem xor_i64_zero {a : Nat} (h : a < 9223372036854775808) : Go.bits .xor .i64 (a : Int) 0 = (a : Int) := by
  show IntKind.i64.wrap ((BitVec.ofInt 64 (a : Int) ^^^ BitVec.ofInt 64 0).toNat : Int) = _
  rw [show BitVec.ofInt 64 0 = 0#64 by decide, BitVec.xor_zero, BitVec.ofInt_natCast, BitVec.toNat_ofNat, Nat.mod_eq_of_lt (by omega), IntKind.wrap_i64]
  omega
theorem xor_u64_ones {a : Nat} (h : a < 18446744073709551616) : Go.bits .xor .u64 (a : Int) 18446744073709551615 = ((18446744073709551615 - a : Nat) : Int) := by
  show IntKind.u64.wrap ((BitVec.ofInt 64 (a : Int) ^^^ BitVec.ofInt 64 18446744073709551615).toNat : Int) = _
  rw [ones64', BitVec.xor_allOnes, BitVec.toNat_not, BitVec.ofInt_natCast, BitVec.toNat_ofNat, Nat.mod_eq_of_lt (by omega), w_u64]
  omega
theorem xor_u64_zero {a : Nat} (h : a < 18446744073709551616) : Go.bits .xor .u64 (a : Int) 0 = (a : Int) := by
  show IntKind.u64.wrap ((BitVec.ofInt 64 (a : Int) ^^^ BitVec.ofInt 64 0).toNat : Int) = _
  rw [show BitVec.ofInt 64 0 = 0#64 by decide, BitVec.xor_zero, BitVec.ofInt_natCast, BitVec.toNat_ofNat, Nat.mod_eq_of_lt (by omega), w_u64]
  omega
theorem zig_bits {n : Int} (h0 : -9223372036854775808 ≤ n) (h1 : n ≤ 9223372036854775807) :
    Go.bits .xor .u64 (IntKind.u64.wrap ((IntKind.u64.wrap n) * 2)) (IntKind.u64.wrap (n / 9223372036854775808)) = (zigI n : Int) := by
  unfold zigI
  rw [w_u64, w_u64, w_u64]
  by_cases h : n < 0
  · rw [if_pos h, show n / 9223372036854775808 % 18446744073709551616 = 18446744073709551615 by omega]
    rw [show n % 18446744073709551616 * 2 % 18446744073709551616 = ((18446744073709551616 + 2 * n).toNat : Int) by omega, xor_u64_ones (by omega)]
    omega
  · rw [if_neg h, show n / 9223372036854775808 % 18446744073709551616 = 0 by omega]
    rw [show n % 18446744073709551616 * 2 % 18446744073709551616 = ((2 * n).toNat : Int) by omega, xor_u64_zero (by omega)]
theorem zag_bits {x : Nat} (h : x < 18446744073709551616) :
    Go.bits .xor .i64 (wrap64 ((x : Int) / 2)) (wrap64 (-(wrap64 (Go.bits .and .u64 (x : Int) 1)))) = zagI x := by
  have e : Go.bits .and .u64 (x : Int) 1 = (x : Int) % 2 :=
    Go.bits_mask .u64 64 (by decide) (fun n a b => by rw [w_u64]; omega) 1 (by decide) x (by omega) (by omega)
  rw [e, show wrap64 ((x : Int) / 2) = ((x / 2 : Nat) : Int) by unfold wrap64; omega]
  unfold zagI
  by_cases h2 : x % 2 = 1
  · rw [if_pos h2, show (x : Int) % 2 = 1 by omega, show wrap64 (-(wrap64 1)) = -1 by unfold wrap64; omega, xor_i64_neg (by omega)]
  · rw [if_neg h2, show (x : Int) % 2 = 0 by omega, show wrap64 (-(wrap64 0)) = 0 by unfold wrap64; omega, xor_i64_zero (by omega)]
theorem or128 {y : Int} (h0 : 0 ≤ y) (h1 : y < 256) : Go.bits .or .u8 y 128 = 128 + y % 128 := by
  rw [Go.u8_or y 128 h0 h1 (by decide) (by decide)]
  have e : ∀ n : Nat, n < 256 → n ||| 128 = 128 + n % 128 := by decide +kernel
  have := e y.toNat (by omega)
  rw [show (128 : Int).toNat = 128 from rfl, this]
  omega
theorem or_place {acc c p : Nat} (h : acc < 2 ^ p) (ht : acc + c * 2 ^ p < 18446744073709551616) : Go.bits .or .u64 (acc : Int) ((c * 2 ^ p : Nat) : Int) = ((acc + c * 2 ^ p : Nat) : Int) := by
  rw [Go.u64_or_nat acc (c * 2 ^ p) (by omega) (by omega)]
  have := Nat.two_pow_add_eq_or_of_lt h c
  rw [Nat.mul_comm c, Nat.or_comm, ← this, Nat.add_comm]
theorem zag_ref {x : Nat} (h : x < 18446744073709551616) :
    (if (Int.tmod (x : Int) 2) = 1 then some (wrap64 ((wrap64 (-(wrap64 (IntKind.u64.wrap (Int.tdiv (x : Int) 2))))) - 1)) else some (wrap64 (IntKind.u64.wrap (Int.tdiv (x : Int) 2)))) = some (zagI x) := by
  rw [Int.tmod_eq_emod_of_nonneg (by omega), Int.tdiv_eq_ediv_of_nonneg (by omega), w_u64]
  obtain ⟨q, hq⟩ : ∃ q : Nat, q = x / 2 := ⟨_, rfl⟩
  have hq2 : q < 9223372036854775808 := by omega
  rw [show (x : Int) / 2 % 18446744073709551616 = (q : Int) by omega, show wrap64 (q : Int) = (q : Int) by unfold wrap64; omega]
  rw [show wrap64 (-(q : Int)) = -(q : Int) by unfold wrap64; omega, show wrap64 (-(q : Int) - 1) = -(q : Int) - 1 by unfold wrap64; omega]
  unfold zagI
  rw [← hq]
  by_cases h2 : x % 2 = 1
  · rw [if_pos h2, if_pos (by omega)]
  · rw [if_neg h2, if_neg (by omega)]
theorem zig_ref {n : Int} (h0 : -9223372036854775808 ≤ n) (h1 : n ≤ 9223372036854775807) :
    (if n < 0 then some (IntKind.u64.wrap ((IntKind.u64.wrap (2 * (IntKind.u64.wrap (wrap64 (-(wrap64 (n + 1))))))) + 1)) else some (IntKind.u64.wrap (2 * (IntKind.u64.wrap n)))) = some (zigI n : Int) := by
  unfold zigI
  rw [w_u64, w_u64, w_u64, w_u64, w_u64]
  by_cases h : n < 0
  · rw [if_pos h, if_pos h]
    congr 1
    unfold wrap64
    omega
  · rw [if_neg h, if_neg h]
    congr 1
    omega


/-! what the program's functions tell -/
theorem wrap_succ (i : Nat) (h : i < 9223372036854775807) : wrap64 ((i : Int) + 1) = ((i + 1 : Nat) : Int) := by
  unfold wrap64; omega
theorem rd_drop (a : List Int) (i : Nat) (h : i < a.length) : a.drop i = rd a (i : Int) :: a.drop (i + 1) := by
  rw [List.drop_eq_getElem_cons h]
  simp [rd, List.getD_eq_getElem?_getD, h]
theorem rd_get (a : List Int) (i : Nat) (h : i < a.length) : rd a (i : Int) = a[i] := by
  simp [rd, List.getD_eq_getElem?_getD, h]
theorem rd_mem (a : List Int) (i : Nat) (h : i < a.length) : rd a (i : Int) ∈ a := by
  rw [rd_get a i h]; exact List.getElem_mem h

theorem put_loop (x : Nat) : ∀ (k : Nat) (acc : List Int), (enc x).length ≤ k → acc.length + (enc x).length ≤ 140737488355328 → octet_Put.l0 k x acc = some (acc ++ enc x) := by
  induction x using enc_ind with
  | h0 x h =>
    intro k acc hk hl
    have hp := enc_pos x
    obtain ⟨k, rfl⟩ : ∃ m, k = m + 1 := ⟨k - 1, by omega⟩
    simp only [octet_Put.l0]
    rw [if_neg (by omega), if_pos (by omega), enc_small h, show (x : Int) % 256 = x by omega]
  | h1 x h ih =>
    intro k acc hk hl
    have hp := enc_pos x
    obtain ⟨k, rfl⟩ : ∃ m, k = m + 1 := ⟨k - 1, by omega⟩
    rw [enc_big h] at hk hl
    simp only [List.length_cons] at hk hl
    simp only [octet_Put.l0]
    rw [if_pos (by omega), if_pos (by omega), or128 (by omega) (by omega), show (x : Int) / 128 = ((x / 128 : Nat) : Int) by omega, show 128 + (x : Int) % 256 % 128 = ((128 + x % 128 : Nat) : Int) by omega]
    rw [ih k _ (by omega) (by simp; omega), enc_big h]
    simp
theorem put_yes (b : List Int) (hb : b.length ≤ 1000000) (x : Nat) (hx : x < 18446744073709551616) (k : Nat) (hk : 10 ≤ k) : octet_Put.f k b x = some (b ++ enc x) := by
  have hl := enc_len10 hx
  unfold octet_Put.f
  simp only [Option.bind_some, List.length_nil, List.nil_append]
  rw [if_pos (by omega)]
  exact put_loop x k b (by omega) (by omega)
theorem putint_yes (b : List Int) (hb : b.length ≤ 1000000) (n : Int) (h0 : -9223372036854775808 ≤ n) (h1 : n ≤ 9223372036854775807) (k : Nat) (hk : 10 ≤ k) : octet_PutInt.f k b n = some (b ++ enc (zigI n)) := by
  unfold octet_PutInt.f octet_Zig.f
  rw [zig_bits h0 h1]
  simp only [Option.bind_some]
  rw [put_yes b hb _ (zig_lt h0 h1) k hk]
  rfl

/-- A list's bytes, without how many there are. -/
def encs : List Int → List Int
  | [] => []
  | n :: l => enc (zigI n) ++ encs l
def lst (l : List Int) : List Int := enc l.length ++ encs l
theorem encs_len (l : List Int) (hl : ∀ n ∈ l, -9223372036854775808 ≤ n ∧ n ≤ 9223372036854775807) : (encs l).length ≤ 10 * l.length := by
  induction l with
  | nil => simp [encs]
  | cons n l ih =>
    have a := ih (fun m hm => hl m (by simp [hm]))
    have b := enc_len10 (zig_lt (hl n (by simp)).1 (hl n (by simp)).2)
    simp only [encs, List.length_append, List.length_cons]
    omega
theorem putlist_loop (l : List Int) (hn : l.length ≤ 5000) (hl : ∀ n ∈ l, -9223372036854775808 ≤ n ∧ n ≤ 9223372036854775807) (d : Nat) : ∀ (k i : Nat) (acc : List Int), i + d = l.length → d + 10 < k → acc.length + 10 * d ≤ 1000000 →
    octet_PutList.l0 k acc l l.length i = some (acc ++ encs (l.drop i)) := by
  induction d with
  | zero =>
    intro k i acc hi hk ha
    obtain ⟨k, rfl⟩ : ∃ m, k = m + 1 := ⟨k - 1, by omega⟩
    simp only [octet_PutList.l0]
    rw [if_neg (by omega), List.drop_of_length_le (by omega)]
    simp [encs]
  | succ d ih =>
    intro k i acc hi hk ha
    obtain ⟨k, rfl⟩ : ∃ m, k = m + 1 := ⟨k - 1, by omega⟩
    have hr := hl _ (rd_mem l i (by omega))
    have b := enc_len10 (zig_lt hr.1 hr.2)
    simp only [octet_PutList.l0]
    rw [if_pos (by omega), if_pos (by omega), if_pos (by omega), putint_yes acc (by omega) _ hr.1 hr.2 k (by omega), rd_drop l i (by omega)]
    simp only [Option.bind_some]
    have hi64 : i < 9223372036854775807 := by omega
    rw [wrap_succ i hi64, ih k (i + 1) _ (by omega) (by omega) (by simp; omega)]
    simp [encs]
theorem putlist_yes (b l : List Int) (hb : b.length ≤ 100000) (hn : l.length ≤ 5000) (hl : ∀ n ∈ l, -9223372036854775808 ≤ n ∧ n ≤ 9223372036854775807) (k : Nat) (hk : 5020 ≤ k) : octet_PutList.f k b l = some (b ++ lst l) := by
  unfold octet_PutList.f lst
  rw [w_u64, show (l.length : Int) % 18446744073709551616 = (l.length : Nat) by omega, put_yes b (by omega) l.length (by omega) k (by omega)]
  simp only [Option.bind_some]
  have b1 := enc_len10 (show l.length < 18446744073709551616 by omega)
  rw [show (0 : Int) = ((0 : Nat) : Int) from rfl, putlist_loop l hn hl l.length k 0 _ (by omega) (by omega) (by simp; omega)]
  simp

/-! reading a word -/
def getP (b : List Int) : Int × Int × Int :=
  match dec 0 b with
  | none => (0, 0, 20)
  | some (y, n) => ((y : Int), (n : Int), 0)
theorem get_loop (b : List Int) (hb : ∀ c ∈ b, 0 ≤ c ∧ c ≤ 255) (hl : b.length ≤ 1000000) (d : Nat) : ∀ (k i acc : Nat), i + d = 9 → 3 * d + 3 ≤ k → i ≤ b.length → acc < 2 ^ (7 * i) →
    octet_Get.l0 k b acc i ((7 * i : Nat) : Int) = some (match dec i (b.drop i) with
      | none => (0, 0, 20)
      | some (y, n) => (((acc + y * 2 ^ (7 * i) : Nat) : Int), ((i + n : Nat) : Int), 0)) := by
  induction d with
  | zero =>
    intro k i acc hd hk hi ha
    obtain rfl : i = 9 := by omega
    obtain ⟨k, rfl⟩ : ∃ m, k = m + 3 := ⟨k - 3, by omega⟩
    by_cases hlt : 9 < b.length
    · have hc := hb _ (rd_mem b 9 hlt)
      rw [rd_drop b 9 hlt]
      generalize hcc : rd b ((9 : Nat) : Int) = c at hc
      simp only [octet_Get.l0, dec]
      rw [hcc, if_neg (by omega), if_pos (by omega), if_pos (by omega), if_pos (by rfl), wrap_succ 9 (by omega)]
      simp only [octet_Get.j1]
      by_cases c1 : 1 < c
      · rw [if_pos (decide_eq_true c1), if_pos ⟨trivial, c1⟩]
        simp only [octet_Get.j2]
        rw [if_pos (decide_eq_true c1)]
      · rw [decide_eq_false (show ¬ c > 1 by omega), if_neg (by decide), if_neg (show ¬ (True ∧ 1 < c) by omega)]
        by_cases c0 : c = 0
        · rw [if_pos c0, if_pos ⟨c0, by omega⟩]
          simp [octet_Get.j2]
        · rw [if_neg c0, if_neg (by omega), if_pos (by omega)]
          simp only [octet_Get.j2]
          obtain rfl : c = ((1 : Nat) : Int) := by omega
          rw [if_neg (by decide), if_pos (by omega), if_pos (by omega)]
          have es : shl .u64 (IntKind.u64.wrap ((1 : Nat) : Int)) ((7 * 9 : Nat) : Int) = ((1 * 2 ^ (7 * 9) : Nat) : Int) := by decide
          rw [es, or_place ha (by omega)]
          rfl
    · rw [List.drop_of_length_le (by omega)]
      simp only [octet_Get.l0, dec]
      rw [if_pos (by omega)]
  | succ d ih =>
    intro k i acc hd hk hi ha
    obtain ⟨k, rfl⟩ : ∃ m, k = m + 3 := ⟨k - 3, by omega⟩
    by_cases hlt : i < b.length
    · have hc := hb _ (rd_mem b i hlt)
      rw [rd_drop b i hlt]
      have p8 := pow7_8 (show i ≤ 8 by omega)
      generalize hcc : rd b (i : Int) = c at hc
      simp only [octet_Get.l0, dec]
      rw [hcc, if_neg (by omega), if_pos (by omega), if_pos (by omega), if_neg (by omega), wrap_succ i (by omega)]
      rw [if_neg (show ¬ (i = 9 ∧ 1 < c) by omega)]
      simp only [octet_Get.j1]
      rw [if_neg (by decide)]
      have hsh : ∀ q : Nat, q ≤ 127 → shl .u64 (q : Int) ((7 * i : Nat) : Int) = ((q * 2 ^ (7 * i) : Nat) : Int) := by
        intro q hq
        have hm := Nat.mul_le_mul hq p8
        unfold shl
        rw [Int.toNat_natCast, Nat.min_eq_left (by simp only [IntKind.bits]; omega), w_u64]
        rw [show (q : Int) * 2 ^ (7 * i) = ((q * 2 ^ (7 * i) : Nat) : Int) by push_cast; rfl]
        omega
      by_cases c0 : c = 0 ∧ 1 ≤ i
      · rw [if_pos c0.1, if_pos c0, decide_eq_true (show ((i + 1 : Nat) : Int) > 1 by omega)]
        simp [octet_Get.j2]
      · rw [if_neg c0]
        have j1 : (if c = 0 then octet_Get.j2 (k + 1) b acc ((i + 1 : Nat) : Int) ((7 * i : Nat) : Int) c (decide (((i + 1 : Nat) : Int) > 1)) else octet_Get.j2 (k + 1) b acc ((i + 1 : Nat) : Int) ((7 * i : Nat) : Int) c false) = octet_Get.j2 (k + 1) b acc ((i + 1 : Nat) : Int) ((7 * i : Nat) : Int) c false := by
          by_cases c00 : c = 0
          · rw [if_pos c00, decide_eq_false (show ¬ ((i + 1 : Nat) : Int) > 1 by omega)]
          · rw [if_neg c00]
        rw [j1]
        simp only [octet_Get.j2]
        rw [if_neg (by decide)]
        by_cases c1 : c < 128
        · rw [if_pos c1, if_pos (by omega), if_pos c1, w_u64, show c % 18446744073709551616 = (c.toNat : Int) by omega, hsh _ (by omega)]
          have hm := Nat.mul_le_mul (show c.toNat ≤ 127 by omega) p8
          rw [or_place ha (by omega)]
        · rw [if_neg c1, if_pos (by omega), if_neg c1, show (c - 128) % 256 = ((c - 128).toNat : Int) by omega, hsh _ (by omega)]
          have hm := Nat.mul_le_mul (show (c - 128).toNat ≤ 127 by omega) p8
          have hp := pow7 i
          have p0 := pow7_pos i
          have hm2 := Nat.mul_le_mul_right (2 ^ (7 * i)) (show (c - 128).toNat ≤ 127 by omega)
          rw [or_place ha (by omega), show wrap64 (((7 * i : Nat) : Int) + 7) = ((7 * (i + 1) : Nat) : Int) by unfold wrap64; omega]
          rw [ih k (i + 1) _ (by omega) (by omega) (by omega) (by omega)]
          cases hdd : dec (i + 1) (b.drop (i + 1)) with
          | none => rfl
          | some q =>
            obtain ⟨y, n⟩ := q
            simp only [Option.some.injEq, Prod.mk.injEq, and_true]
            constructor
            · congr 1
              rw [hp, Nat.add_mul, Nat.add_assoc]
              congr 2
              rw [← Nat.mul_assoc, Nat.mul_comm 128 y]
            · omega
    · rw [List.drop_of_length_le (by omega)]
      simp only [octet_Get.l0, dec]
      rw [if_pos (by omega)]
theorem get_yes (b : List Int) (hb : ∀ c ∈ b, 0 ≤ c ∧ c ≤ 255) (hl : b.length ≤ 1000000) (k : Nat) (hk : 30 ≤ k) : octet_Get.f k b = some (getP b) := by
  have := get_loop b hb hl 9 k 0 0 (by omega) (by omega) (by omega) (by simp)
  unfold octet_Get.f getP
  refine this.trans ?_
  rw [List.drop_zero]
  cases dec 0 b with
  | none => rfl
  | some p => obtain ⟨y, n⟩ := p; simp

theorem chars_eq {l m : List Int} (h : (strOfNums l).toList = (strOfNums m).toList) : True := trivial
theorem same07_yes (l : List Int) : sakiaref07_Same.f l l = some true := by
  unfold sakiaref07_Same.f
  simp
theorem live_yes (k : Nat) (hk : 5020 ≤ k) : sakialaw07_live.f k = some true := by
  unfold sakialaw07_live.f
  rw [get_yes _ (by decide) (by decide) k (by omega), putint_yes [] (by decide) (-1) (by decide) (by decide) k (by omega), putlist_yes [] [1, 2] (by decide) (by decide) (by decide) k hk]
  have e1 : getP [172, 2, 9] = (300, 2, 0) := by decide
  have e2 : ([] : List Int) ++ enc (zigI (-1)) = [1] := by rw [show zigI (-1) = 1 by decide, enc_small (by decide)]; rfl
  have e3 : ([] : List Int) ++ lst [1, 2] = [2, 2, 4] := by
    simp only [lst, encs]
    rw [show zigI 1 = 2 by decide, show zigI 2 = 4 by decide, enc_small (x := 2) (by decide), enc_small (x := 4) (by decide), show ([1, 2] : List Int).length = 2 from rfl, enc_small (x := 2) (by decide)]
    rfl
  rw [e1, e2, e3]
  simp [same07_yes]


/-! the reference's word -/
def val : List Int → Nat
  | [] => 0
  | c :: r => (c % 128).toNat + 128 * val r
theorem val_enc (y : Nat) : val (enc y) = y := by
  induction y using enc_ind with
  | h0 x h => rw [enc_small h]; simp only [val]; omega
  | h1 x h ih => rw [enc_big h]; simp only [val]; rw [ih]; omega
theorem enc_high (y : Nat) : ∀ j : Nat, j + 1 < (enc y).length → 127 < rd (enc y) j := by
  induction y using enc_ind with
  | h0 x h => intro j hj; rw [enc_small h] at hj; simp at hj
  | h1 x h ih =>
    intro j hj
    rw [enc_big h] at hj ⊢
    rcases j with _ | j
    · simp [rd]; omega
    · have := ih j (by simpa using hj)
      simpa [rd] using this
theorem enc_low (y : Nat) : ∀ j : Nat, j + 1 = (enc y).length → rd (enc y) j ≤ 127 := by
  induction y using enc_ind with
  | h0 x h => intro j hj; rw [enc_small h] at hj ⊢; simp at hj; subst hj; simp [rd]; omega
  | h1 x h ih =>
    intro j hj
    rw [enc_big h] at hj ⊢
    have hp := enc_pos (x / 128)
    rcases j with _ | j
    · simp only [List.length_cons] at hj; omega
    · have := ih j (by simpa using hj)
      simpa [rd] using this
theorem rd_app (a r : List Int) (j : Nat) (h : j < a.length) : rd (a ++ r) j = rd a j := by
  rw [rd_get _ j (by simp; omega), rd_get a j h, List.getElem_append_left h]

theorem refput_loop (x : Nat) : ∀ (k : Nat) (acc : List Int), x < 18446744073709551616 → (enc x).length ≤ k → acc.length + (enc x).length ≤ 140737488355328 → sakiaref07_Put.l0 k x acc = some (acc ++ enc x) := by
  induction x using enc_ind with
  | h0 x h =>
    intro k acc hx hk hl
    have hp := enc_pos x
    obtain ⟨k, rfl⟩ : ∃ m, k = m + 1 := ⟨k - 1, by omega⟩
    simp only [sakiaref07_Put.l0]
    rw [if_neg (by omega), if_pos (by omega), enc_small h, show (x : Int) % 256 = x by omega]
  | h1 x h ih =>
    intro k acc hx hk hl
    have hp := enc_pos x
    obtain ⟨k, rfl⟩ : ∃ m, k = m + 1 := ⟨k - 1, by omega⟩
    rw [enc_big h] at hk hl
    simp only [List.length_cons] at hk hl
    simp only [sakiaref07_Put.l0]
    rw [if_pos (by omega), if_pos (by omega), Int.tdiv_eq_ediv_of_nonneg (by omega), Int.tmod_eq_emod_of_nonneg (by omega), w_u64, w_u64]
    rw [show (x : Int) / 128 % 18446744073709551616 = ((x / 128 : Nat) : Int) by omega, show (128 + (x : Int) % 128) % 18446744073709551616 % 256 = ((128 + x % 128 : Nat) : Int) by omega]
    rw [ih k _ (by omega) (by omega) (by simp; omega), enc_big h]
    simp
theorem refput_yes (x : Nat) (hx : x < 18446744073709551616) (k : Nat) (hk : 10 ≤ k) : sakiaref07_Put.f k x = some (enc x) := by
  have hl := enc_len10 hx
  unfold sakiaref07_Put.f
  exact refput_loop x k [] hx (by omega) (by simp; omega)

theorem first_low (b : List Int) (hb : ∀ c ∈ b, 0 ≤ c ∧ c ≤ 255) (m : Nat) (a2 : m ≤ 10) (a3 : m ≤ b.length) (a4 : ∀ j : Nat, j < m → 127 < rd b j) (a5 : m = b.length ∨ m = 10 ∨ m < b.length ∧ rd b m ≤ 127) (y n : Nat) (hd : dec 0 b = some (y, n)) :
    y < 18446744073709551616 ∧ b.take (m + 1) = enc y ∧ n = m + 1 ∧ m < b.length ∧ m < 10 := by
  obtain ⟨h1, ⟨r, h2⟩, h3, _⟩ := dec_sound b 0 y n (by omega) hb hd
  have hy := room_zero.1 h3
  have hp := enc_pos y
  have h10 := enc_len10 hy
  have hlb : (enc y).length ≤ b.length := by rw [h2]; simp
  have low : rd b ((enc y).length - 1 : Nat) ≤ 127 := by
    rw [h2, rd_app _ _ _ (by omega)]
    exact enc_low y _ (by omega)
  have ge : m ≤ (enc y).length - 1 := by
    by_cases hh : (enc y).length - 1 < m
    · have := a4 _ hh; omega
    · omega
  have em : (enc y).length = m + 1 := by
    rcases a5 with h | h | ⟨h, hle⟩
    · omega
    · omega
    · by_cases hh : m + 1 < (enc y).length
      · have := enc_high y m hh
        rw [h2, rd_app _ _ _ (by omega)] at hle
        omega
      · omega
  refine ⟨hy, ?_, by omega, by omega, by omega⟩
  rw [h2, ← em, List.take_append_of_le_length (Nat.le_refl _), List.take_length]
theorem getP_none (b : List Int) (h : ∀ y n, dec 0 b ≠ some (y, n)) : getP b = (0, 0, 20) := by
  unfold getP
  cases hd : dec 0 b with
  | none => rfl
  | some p => exact absurd hd (h p.1 p.2)
theorem val_take (b : List Int) (m y : Nat) (h1 : y < 18446744073709551616) (h2 : b.take (m + 1) = enc y) : val (b.take (m + 1)) % 18446744073709551616 = y := by
  rw [h2, val_enc, Nat.mod_eq_of_lt h1]
theorem getP_cases (b : List Int) (hb : ∀ c ∈ b, 0 ≤ c ∧ c ≤ 255) : getP b = (0, 0, 20) ∨ ∃ y : Nat, y < 18446744073709551616 ∧ (∃ r, b = enc y ++ r) ∧ getP b = ((y : Int), ((enc y).length : Int), 0) := by
  unfold getP
  cases hd : dec 0 b with
  | none => exact .inl rfl
  | some p =>
    obtain ⟨y, n⟩ := p
    obtain ⟨h1, h2, h3, _⟩ := dec_sound b 0 y n (by omega) hb hd
    exact .inr ⟨y, room_zero.1 h3, h2, by simp [h1]⟩

theorem take_ge (b : List Int) (n : Nat) : ∀ c ∈ b.drop n, c ∈ b := fun c h => List.mem_of_mem_drop h

/-! numbers and lists, read -/
theorem zag_yes (x : Nat) (h : x < 18446744073709551616) : octet_Zag.f x = some (zagI x) := by
  unfold octet_Zag.f
  rw [zag_bits h]
theorem refzag_yes (x : Nat) (h : x < 18446744073709551616) : sakiaref07_Zag.f x = some (zagI x) := by
  unfold sakiaref07_Zag.f
  exact zag_ref h
/-- c words more off the front, from place a on. -/
def readN (b : List Int) : Nat → Nat → List Int → List Int × Int × Int
  | 0, a, out => (out, (a : Int), 0)
  | c + 1, a, out => if (getP (b.drop a)).2.2 = 0 then readN b c (a + (getP (b.drop a)).2.1.toNat) (out ++ [zagI (getP (b.drop a)).1.toNat]) else ([], 0, (getP (b.drop a)).2.2)
def readL (b : List Int) (most : Int) : List Int × Int × Int :=
  if (getP b).2.2 = 0 then (if most < 0 ∨ (getP b).1 > most then ([], 0, 21) else readN b (getP b).1.toNat (getP b).2.1.toNat []) else ([], 0, (getP b).2.2)
theorem getP_step (b : List Int) (hb : ∀ c ∈ b, 0 ≤ c ∧ c ≤ 255) (h : (getP b).2.2 = 0) : ∃ y : Nat, y < 18446744073709551616 ∧ (getP b).1 = y ∧ (getP b).2.1 = ((enc y).length : Int) ∧ 0 < (enc y).length ∧ (∃ r, b = enc y ++ r) := by
  rcases getP_cases b hb with g | ⟨y, hy, hr, g⟩
  · rw [g] at h; cases h
  · exact ⟨y, hy, by rw [g], by rw [g], enc_pos y, hr⟩
theorem readN_len (b : List Int) (hb : ∀ c ∈ b, 0 ≤ c ∧ c ≤ 255) (c : Nat) : ∀ (a : Nat) (out : List Int), a ≤ b.length → out.length ≤ a → (readN b c a out).1.length ≤ b.length := by
  induction c with
  | zero => intro a out ha ho; simp only [readN]; omega
  | succ c ih =>
    intro a out ha ho
    simp only [readN]
    by_cases he : (getP (b.drop a)).2.2 = 0
    · obtain ⟨y, hy, g1, g2, g3, ⟨r, g4⟩⟩ := getP_step _ (fun c hc => hb c (take_ge b a c hc)) he
      have hlen : (enc y).length ≤ b.length - a := by
        have := congrArg List.length g4
        simp at this
        omega
      rw [if_pos he, g2]
      exact ih _ _ (by omega) (by simp; omega)
    · rw [if_neg he]; simp
theorem len_loop (x : Nat) : ∀ (k n : Nat), (enc x).length ≤ k → n + (enc x).length ≤ 1000 → octet_Len.l0 k x ((n + 1 : Nat) : Int) = some ((n + (enc x).length : Nat) : Int) := by
  induction x using enc_ind with
  | h0 x h =>
    intro k n hk hn
    have hp := enc_pos x
    obtain ⟨k, rfl⟩ : ∃ m, k = m + 1 := ⟨k - 1, by omega⟩
    simp only [octet_Len.l0]
    rw [if_neg (by omega), enc_small h]
    rfl
  | h1 x h ih =>
    intro k n hk hn
    have hp := enc_pos x
    obtain ⟨k, rfl⟩ : ∃ m, k = m + 1 := ⟨k - 1, by omega⟩
    rw [enc_big h] at hk hn ⊢
    simp only [List.length_cons] at hk hn ⊢
    simp only [octet_Len.l0]
    rw [if_pos (by omega), show (x : Int) / 128 = ((x / 128 : Nat) : Int) by omega, show wrap64 (((n + 1 : Nat) : Int) + 1) = ((n + 1 + 1 : Nat) : Int) by unfold wrap64; omega]
    rw [ih k (n + 1) (by omega) (by omega)]
    congr 1
    omega
theorem len_yes (x : Nat) (hx : x < 18446744073709551616) (k : Nat) (hk : 10 ≤ k) : octet_Len.f k x = some ((enc x).length : Int) := by
  have hl := enc_len10 hx
  unfold octet_Len.f
  refine (len_loop x k 0 (by omega) (by omega)).trans ?_
  simp
theorem refzig_yes (n : Int) (h0 : -9223372036854775808 ≤ n) (h1 : n ≤ 9223372036854775807) : sakiaref07_Zig.f n = some (zigI n : Int) := by
  unfold sakiaref07_Zig.f
  exact zig_ref h0 h1
theorem reflist_loop (l : List Int) (hn : l.length ≤ 5000) (hl : ∀ n ∈ l, -9223372036854775808 ≤ n ∧ n ≤ 9223372036854775807) (d : Nat) : ∀ (k i : Nat) (acc : List Int), i + d = l.length → d + 10 < k → acc.length + 10 * d ≤ 1000000 →
    sakiaref07_List.l0 k l acc i = some (acc ++ encs (l.drop i)) := by
  induction d with
  | zero =>
    intro k i acc hi hk ha
    obtain ⟨k, rfl⟩ : ∃ m, k = m + 1 := ⟨k - 1, by omega⟩
    simp only [sakiaref07_List.l0]
    rw [if_neg (by omega), List.drop_of_length_le (by omega)]
    simp [encs]
  | succ d ih =>
    intro k i acc hi hk ha
    obtain ⟨k, rfl⟩ : ∃ m, k = m + 1 := ⟨k - 1, by omega⟩
    have hr := hl _ (rd_mem l i (by omega))
    have b := enc_len10 (zig_lt hr.1 hr.2)
    simp only [sakiaref07_List.l0]
    rw [if_pos (by omega), if_pos (by omega), refzig_yes _ hr.1 hr.2, Option.bind_some, refput_yes _ (zig_lt hr.1 hr.2) k (by omega), Option.bind_some, if_pos (by omega), rd_drop l i (by omega)]
    have hi64 : i < 9223372036854775807 := by omega
    rw [wrap_succ i hi64, ih k (i + 1) _ (by omega) (by omega) (by simp; omega)]
    simp [encs]
theorem reflist_yes (l : List Int) (hn : l.length ≤ 5000) (hl : ∀ n ∈ l, -9223372036854775808 ≤ n ∧ n ≤ 9223372036854775807) (k : Nat) (hk : 5020 ≤ k) : sakiaref07_List.f k l = some (lst l) := by
  unfold sakiaref07_List.f lst
  rw [w_u64, show (l.length : Int) % 18446744073709551616 = (l.length : Nat) by omega, refput_yes l.length (by omega) k (by omega), Option.bind_some]
  have b1 := enc_len10 (show l.length < 18446744073709551616 by omega)
  exact reflist_loop l hn hl l.length k 0 _ (by omega) (by omega) (by omega)

theorem str_app (a b : List Int) : strOfNums (a ++ b) = strOfNums a ++ strOfNums b := by
  apply ByteArray.ext
  rw [ByteArray.data_append]
  simp [strOfNums]
theorem OctetWrites : sakialaw07_OctetWrites.Pure := by
  intro x l b hx hl1 hl2 hlw hb1 hb2 hbw
  have hb : ∀ c ∈ b, 0 ≤ c ∧ c ≤ 255 := by
    intro c hc
    have := hbw c hc
    simp only [Lit.wf, decide_eq_true_eq, Bool.and_eq_true, IntKind.min, IntKind.max, IntKind.signed, IntKind.bits] at this
    simp at this
    omega
  have hl : ∀ n ∈ l, -9223372036854775808 ≤ n ∧ n ≤ 9223372036854775807 := by
    intro c hc
    have := hlw c hc
    simp only [Lit.wf, decide_eq_true_eq, Bool.and_eq_true, IntKind.min, IntKind.max, IntKind.signed, IntKind.bits] at this
    simp at this
    omega
  simp only [Lit.wf, decide_eq_true_eq, Bool.and_eq_true, IntKind.min, IntKind.max, IntKind.signed, IntKind.bits] at hx
  simp at hx
  obtain ⟨y, rfl⟩ := Int.eq_ofNat_of_zero_le hx.1
  have hy : y < 18446744073709551616 := by omega
  obtain ⟨K, hK⟩ : ∃ K : Nat, 9000 ≤ K := ⟨9000, by omega⟩
  refine ⟨K + 2, ?_⟩
  unfold sakialaw07_OctetWrites.f
  have live : sakialaw07_OctetWrites.j0 (K + 2) y l b true = some true := by
    simp only [sakialaw07_OctetWrites.j0]
    rw [if_pos trivial, live_yes _ (by omega)]
    rfl
  by_cases h1 : (l.length : Int) > 300
  · rw [if_pos h1]; exact live
  · rw [if_neg h1]
    by_cases h2 : (b.length : Int) > 1000
    · rw [decide_eq_true h2]; exact live
    · rw [decide_eq_false h2]
      have e10 := enc_len10 hy
      have elen := encs_len l hl
      have el10 := enc_len10 (show l.length < 18446744073709551616 by omega)
      have lstl : (lst l).length ≤ 10 + 10 * l.length := by unfold lst; rw [List.length_append]; omega
      have go : ∀ n : Int, -9223372036854775808 ≤ n → n ≤ 9223372036854775807 → sakialaw07_OctetWrites.j1 (K + 1) y l b (strOfNums b) n = some true := by
        intro n n0 n1
        have z10 := enc_len10 (zig_lt n0 n1)
        have zp := enc_pos (zigI n)
        simp only [sakialaw07_OctetWrites.j1]
        rw [put_yes b (by omega) y hy _ (by omega), Option.bind_some, refput_yes y hy _ (by omega), Option.bind_some, if_pos (by rw [strOfNums_size, strOfNums_size]; omega), if_pos (by rw [str_app])]
        rw [len_yes y hy _ (by omega), Option.bind_some, Option.bind_some, if_pos rfl, show octet_Zig.f n = some (zigI n : Int) by unfold octet_Zig.f; rw [zig_bits n0 n1], Option.bind_some, refzig_yes n n0 n1, Option.bind_some, if_pos rfl]
        rw [zag_yes y hy, Option.bind_some, refzag_yes y hy, Option.bind_some, if_pos rfl, putint_yes b (by omega) n n0 n1 _ (by omega), Option.bind_some, if_neg ?_]
        · rw [Option.bind_some, Option.bind_some, refput_yes _ (zig_lt n0 n1) _ (by omega), Option.bind_some, if_pos (by rw [strOfNums_size, strOfNums_size]; omega), if_pos (by rw [str_app])]
          rw [putlist_yes b l (by omega) (by omega) hl _ (by omega), Option.bind_some, reflist_yes l (by omega) hl _ (by omega), Option.bind_some, if_pos (by rw [strOfNums_size, strOfNums_size]; omega), if_pos (by rw [str_app]), live_yes _ (by omega)]
          rfl
        · intro h
          rw [ByteArray.toList_eq, strOfNums_data] at h
          have := congrArg List.length h
          rw [List.length_map, List.length_append, List.length_nil] at this
          omega
      simp only [sakialaw07_OctetWrites.j0]
      rw [if_neg (by decide)]
      by_cases hl0 : (l.length : Int) > 0
      · have h0 := hl _ (rd_mem l 0 (by omega))
        rw [if_pos hl0, if_pos (by omega)]
        exact go _ h0.1 h0.2
      · rw [if_neg hl0]
        exact go 0 (by decide) (by decide)


end Go.Proofs.Ytoabkmogmekdkaa.Pure
