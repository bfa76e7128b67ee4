-- Written for this claim by a program of this session.
import Derived.Test.YtoobhpgkecplmaaQPackReadsx0
import Derived.Test.YtoobhpgkecplmaaQPackReadsx2
import Derived.Test.YtoobhpgkecplmaaQPackReadsx3
namespace Go.Proofs.Ytoobhpgkecplmaa.QPackReads
open Go.RowKit Go.Proofs.YtoobhpgkecplmaaW.PrintWords Go.Proofs.YtoobhpgkecplmaaW.PrintLast Go.Proofs.YtoobhpgkecplmaaW.PrintMore
attribute [local go_sem] max2_int min2_int max_two min_two max_three min_three max_four min_four   -- for this text's walks alone
set_option linter.unusedVariables false
set_option linter.unusedSimpArgs false

/-! ### pack_Unlog: function 16 -/
open Go
theorem rd_get (a : List Int) (i : Nat) (h : i < a.length) : rd a (i : Int) = a[i] := by
  simp [rd, List.getD_eq_getElem?_getD, h]
/-! reading a word -/
def getP (b : List Int) : Int × Int × Int :=
  match dec 0 b with
  | none => (0, 0, 20)
  | some (y, n) => ((y : Int), (n : Int), 0)
theorem get_loop (b : List Int) (hb : ∀ c ∈ b, 0 ≤ c ∧ c ≤ 255) (hl : b.length ≤ 2000000) (d : Nat) : ∀ (k i acc : Nat), i + d = 9 → 3 * d + 3 ≤ k → i ≤ b.length → acc < 2 ^ (7 * i) →
    octet_Get.l0 k b acc i ((7 * i : Nat) : Int) = some (match dec i (b.drop i) with
      | none => (0, 0, 20)
      | some (y, n) => (((acc + y * 2 ^ (7 * i) : Nat) : Int), ((i + n : Nat) : Int), 0)) := by
  induction d with
  | zero =>
    intro k i acc hd hk hi ha
    obtain rfl : i = 9 := by omega
    obtain ⟨k, rfl⟩ : ∃ m, k = m + 3 := ⟨k - 3, by omega⟩
    by_cases hlt : 9 < b.length
    · have hc := hb _ (rd_mem b 9 hlt)
      rw [rd_drop b 9 hlt]
      generalize hcc : rd b ((9 : Nat) : Int) = c at hc
      simp only [octet_Get.l0, dec]
      rw [hcc, if_neg (by omega), if_pos (by omega), if_pos (by omega), if_pos (by rfl), wrap_succ 9 (by omega)]
      simp only [octet_Get.j1]
      by_cases c1 : 1 < c
      · rw [if_pos (decide_eq_true c1), if_pos ⟨trivial, c1⟩]
        simp only [octet_Get.j2]
        rw [if_pos (decide_eq_true c1)]
      · rw [decide_eq_false (show ¬ c > 1 by omega), if_neg (by decide), if_neg (show ¬ (True ∧ 1 < c) by omega)]
        by_cases c0 : c = 0
        · rw [if_pos c0, if_pos ⟨c0, by omega⟩]
          simp [octet_Get.j2]
        · rw [if_neg c0, if_neg (by omega), if_pos (by omega)]
          simp only [octet_Get.j2]
          obtain rfl : c = ((1 : Nat) : Int) := by omega
          rw [if_neg (by decide), if_pos (by omega), if_pos (by omega)]
          have es : shl .u64 (IntKind.u64.wrap ((1 : Nat) : Int)) ((7 * 9 : Nat) : Int) = ((1 * 2 ^ (7 * 9) : Nat) : Int) := by decide
          rw [es, or_place ha (by omega)]
          rfl
    · rw [List.drop_of_length_le (by omega)]
      simp only [octet_Get.l0, dec]
      rw [if_pos (by omega)]
  | succ d ih =>
    intro k i acc hd hk hi ha
    obtain ⟨k, rfl⟩ : ∃ m, k = m + 3 := ⟨k - 3, by omega⟩
    by_cases hlt : i < b.length
    · have hc := hb _ (rd_mem b i hlt)
      rw [rd_drop b i hlt]
      have p8 := pow7_8 (show i ≤ 8 by omega)
      generalize hcc : rd b (i : Int) = c at hc
      simp only [octet_Get.l0, dec]
      rw [hcc, if_neg (by omega), if_pos (by omega), if_pos (by omega), if_neg (by omega), wrap_succ i (by omega)]
      rw [if_neg (show ¬ (i = 9 ∧ 1 < c) by omega)]
      simp only [octet_Get.j1]
      rw [if_neg (by decide)]
      have hsh : ∀ q : Nat, q ≤ 127 → shl .u64 (q : Int) ((7 * i : Nat) : Int) = ((q * 2 ^ (7 * i) : Nat) : Int) := by
        intro q hq
        have hm := Nat.mul_le_mul hq p8
        unfold shl
        rw [Int.toNat_natCast, Nat.min_eq_left (by simp only [IntKind.bits]; omega), w_u64]
        rw [show (q : Int) * 2 ^ (7 * i) = ((q * 2 ^ (7 * i) : Nat) : Int) by push_cast; rfl]
        omega
      by_cases c0 : c = 0 ∧ 1 ≤ i
      · rw [if_pos c0.1, if_pos c0, decide_eq_true (show ((i + 1 : Nat) : Int) > 1 by omega)]
        simp [octet_Get.j2]
      · rw [if_neg c0]
        have j1 : (if c = 0 then octet_Get.j2 (k + 1) b acc ((i + 1 : Nat) : Int) ((7 * i : Nat) : Int) c (decide (((i + 1 : Nat) : Int) > 1)) else octet_Get.j2 (k + 1) b acc ((i + 1 : Nat) : Int) ((7 * i : Nat) : Int) c false) = octet_Get.j2 (k + 1) b acc ((i + 1 : Nat) : Int) ((7 * i : Nat) : Int) c false := by
          by_cases c00 : c = 0
          · rw [if_pos c00, decide_eq_false (show ¬ ((i + 1 : Nat) : Int) > 1 by omega)]
          · rw [if_neg c00]
        rw [j1]
        simp only [octet_Get.j2]
        rw [if_neg (by decide)]
        by_cases c1 : c < 128
        · rw [if_pos c1, if_pos (by omega), if_pos c1, w_u64, show c % 18446744073709551616 = (c.toNat : Int) by omega, hsh _ (by omega)]
          have hm := Nat.mul_le_mul (show c.toNat ≤ 127 by omega) p8
          rw [or_place ha (by omega)]
        · rw [if_neg c1, if_pos (by omega), if_neg c1, show (c - 128) % 256 = ((c - 128).toNat : Int) by omega, hsh _ (by omega)]
          have hm := Nat.mul_le_mul (show (c - 128).toNat ≤ 127 by omega) p8
          have hp := pow7 i
          have p0 := pow7_pos i
          have hm2 := Nat.mul_le_mul_right (2 ^ (7 * i)) (show (c - 128).toNat ≤ 127 by omega)
          rw [or_place ha (by omega), show wrap64 (((7 * i : Nat) : Int) + 7) = ((7 * (i + 1) : Nat) : Int) by unfold wrap64; omega]
          rw [ih k (i + 1) _ (by omega) (by omega) (by omega) (by omega)]
          cases hdd : dec (i + 1) (b.drop (i + 1)) with
          | none => rfl
          | some q =>
            obtain ⟨y, n⟩ := q
            simp only [Option.some.injEq, Prod.mk.injEq, and_true]
            constructor
            · congr 1
              rw [hp, Nat.add_mul, Nat.add_assoc]
              congr 2
              rw [← Nat.mul_assoc, Nat.mul_comm 128 y]
            · omega
    · rw [List.drop_of_length_le (by omega)]
      simp only [octet_Get.l0, dec]
      rw [if_pos (by omega)]
theorem get_yes (b : List Int) (hb : ∀ c ∈ b, 0 ≤ c ∧ c ≤ 255) (hl : b.length ≤ 2000000) (k : Nat) (hk : 30 ≤ k) : octet_Get.f k b = some (getP b) := by
  have := get_loop b hb hl 9 k 0 0 (by omega) (by omega) (by omega) (by simp)
  unfold octet_Get.f getP
  refine this.trans ?_
  rw [List.drop_zero]
  cases dec 0 b with
  | none => rfl
  | some p => obtain ⟨y, n⟩ := p; simp
theorem getP_none (b : List Int) (h : ∀ y n, dec 0 b ≠ some (y, n)) : getP b = (0, 0, 20) := by
  unfold getP
  cases hd : dec 0 b with
  | none => rfl
  | some p => exact absurd hd (h p.1 p.2)
theorem getP_cases (b : List Int) (hb : ∀ c ∈ b, 0 ≤ c ∧ c ≤ 255) : getP b = (0, 0, 20) ∨ ∃ y : Nat, y < 18446744073709551616 ∧ (∃ r, b = enc y ++ r) ∧ getP b = ((y : Int), ((enc y).length : Int), 0) := by
  unfold getP
  cases hd : dec 0 b with
  | none => exact .inl rfl
  | some p =>
    obtain ⟨y, n⟩ := p
    obtain ⟨h1, h2, h3, _⟩ := dec_sound b 0 y n (by omega) hb hd
    exact .inr ⟨y, room_zero.1 h3, h2, by simp [h1]⟩
theorem take_ge (b : List Int) (n : Nat) : ∀ c ∈ b.drop n, c ∈ b := fun c h => List.mem_of_mem_drop h
/-! numbers and lists, read -/
theorem zag_yes (x : Nat) (h : x < 18446744073709551616) : octet_Zag.f x = some (zagI x) := by
  unfold octet_Zag.f
  rw [zag_bits h]
/-- c words more off the front, from place a on. -/
def readN (b : List Int) : Nat → Nat → List Int → List Int × Int × Int
  | 0, a, out => (out, (a : Int), 0)
  | c + 1, a, out => if (getP (b.drop a)).2.2 = 0 then readN b c (a + (getP (b.drop a)).2.1.toNat) (out ++ [zagI (getP (b.drop a)).1.toNat]) else ([], 0, (getP (b.drop a)).2.2)
def readL (b : List Int) (most : Int) : List Int × Int × Int :=
  if (getP b).2.2 = 0 then (if most < 0 ∨ (getP b).1 > most then ([], 0, 21) else readN b (getP b).1.toNat (getP b).2.1.toNat []) else ([], 0, (getP b).2.2)
theorem getint_yes (b : List Int) (hb : ∀ c ∈ b, 0 ≤ c ∧ c ≤ 255) (hl : b.length ≤ 2000000) (k : Nat) (hk : 30 ≤ k) : octet_GetInt.f k b = some (zagI (getP b).1.toNat, (getP b).2.1, (getP b).2.2) := by
  unfold octet_GetInt.f
  rw [get_yes b hb hl k hk, Option.bind_some]
  rcases getP_cases b hb with h | ⟨y, hy, _, h⟩
  · rw [h]
    rw [show octet_Zag.f ((0 : Int), (0 : Int), (20 : Int)).1 = some (zagI 0) from zag_yes 0 (by decide)]
    rfl
  · rw [h]
    rw [show octet_Zag.f ((y : Int), ((enc y).length : Int), (0 : Int)).1 = some (zagI y) from zag_yes y hy]
    rfl
theorem getP_step (b : List Int) (hb : ∀ c ∈ b, 0 ≤ c ∧ c ≤ 255) (h : (getP b).2.2 = 0) : ∃ y : Nat, y < 18446744073709551616 ∧ (getP b).1 = y ∧ (getP b).2.1 = ((enc y).length : Int) ∧ 0 < (enc y).length ∧ (∃ r, b = enc y ++ r) := by
  rcases getP_cases b hb with g | ⟨y, hy, hr, g⟩
  · rw [g] at h; cases h
  · exact ⟨y, hy, by rw [g], by rw [g], enc_pos y, hr⟩
theorem list_loop (b : List Int) (hb : ∀ c ∈ b, 0 ≤ c ∧ c ≤ 255) (hl : b.length ≤ 2000000) (many : Nat) (hm : many < 18446744073709551616) (d : Nat) : ∀ (k i a : Nat) (out : List Int), a + d = b.length → d + 40 < k → i ≤ many → out.length ≤ a →
    octet_GetList.l0 k b a out many i = some (readN b (many - i) a out) := by
  induction d using Nat.strongRecOn with
  | _ d ih =>
    intro k i a out ha hk hi ho
    obtain ⟨k, rfl⟩ : ∃ m, k = m + 1 := ⟨k - 1, by omega⟩
    simp only [octet_GetList.l0]
    by_cases h : (i : Int) < many
    · have hbd : ∀ c ∈ b.drop a, 0 ≤ c ∧ c ≤ 255 := fun c hc => hb c (take_ge b a c hc)
      obtain ⟨c, hc⟩ : ∃ c, many - i = c + 1 := ⟨many - i - 1, by omega⟩
      rw [if_pos h, if_pos (by omega), if_pos (by omega), Int.toNat_natCast, getint_yes _ hbd (by simp; omega) k (by omega), Option.bind_some, hc]
      simp only [readN]
      by_cases he : (getP (b.drop a)).2.2 = 0
      · obtain ⟨y, hy, g1, g2, g3, ⟨r, g4⟩⟩ := getP_step _ hbd he
        have hlen : (enc y).length ≤ d := by
          have := congrArg List.length g4
          simp at this
          omega
        rw [if_pos he, if_pos he, if_pos (by omega), g1, g2]
        simp only [Int.toNat_natCast]
        rw [show wrap64 ((a : Int) + ((enc y).length : Int)) = ((a + (enc y).length : Nat) : Int) by unfold wrap64; omega, w_u64, show ((i : Int) + 1) % 18446744073709551616 = ((i + 1 : Nat) : Int) by omega]
        have := ih (d - (enc y).length) (by omega) k (i + 1) (a + (enc y).length) (out ++ [zagI y]) (by omega) (by omega) (by omega) (by simp; omega)
        rw [this, show many - (i + 1) = c by omega]
      · rw [if_neg he, if_neg he]
    · rw [if_neg h, show many - i = 0 by omega]
      rfl
theorem getlist_yes (b : List Int) (hb : ∀ c ∈ b, 0 ≤ c ∧ c ≤ 255) (hl : b.length ≤ 2000000) (most : Int) (h0 : -9223372036854775808 ≤ most) (h1 : most ≤ 9223372036854775807) (k : Nat) (hk : b.length + 50 ≤ k) : octet_GetList.f k b most = some (readL b most) := by
  unfold octet_GetList.f readL
  rw [get_yes b hb hl k (by omega), Option.bind_some]
  obtain ⟨k, rfl⟩ : ∃ m, k = m + 1 := ⟨k - 1, by omega⟩
  by_cases he : (getP b).2.2 = 0
  · obtain ⟨y, hy, g1, g2, g3, ⟨r, g4⟩⟩ := getP_step _ hb he
    have hlen : (enc y).length ≤ b.length := by rw [g4]; simp
    rw [if_pos he, if_pos he, g1, g2]
    simp only [Int.toNat_natCast]
    by_cases hm : most < 0
    · rw [if_pos hm, if_pos (.inl hm)]
      simp [octet_GetList.j0]
    · rw [if_neg hm, w_u64, show most % 18446744073709551616 = most by omega]
      by_cases hy2 : (y : Int) > most
      · rw [decide_eq_true hy2, if_pos (.inr hy2)]
        simp [octet_GetList.j0]
      · rw [decide_eq_false hy2, if_neg (by omega)]
        simp only [octet_GetList.j0]
        rw [if_neg (by decide)]
        exact list_loop b hb hl y hy (b.length - (enc y).length) k 0 (enc y).length [] (by omega) (by omega) (by omega) (by simp)
  · rw [if_neg he, if_neg he]
theorem readN_len (b : List Int) (hb : ∀ c ∈ b, 0 ≤ c ∧ c ≤ 255) (c : Nat) : ∀ (a : Nat) (out : List Int), a ≤ b.length → out.length ≤ a → (readN b c a out).1.length ≤ b.length := by
  induction c with
  | zero => intro a out ha ho; simp only [readN]; omega
  | succ c ih =>
    intro a out ha ho
    simp only [readN]
    by_cases he : (getP (b.drop a)).2.2 = 0
    · obtain ⟨y, hy, g1, g2, g3, ⟨r, g4⟩⟩ := getP_step _ (fun c hc => hb c (take_ge b a c hc)) he
      have hlen : (enc y).length ≤ b.length - a := by
        have := congrArg List.length g4
        simp at this
        omega
      rw [if_pos he, g2]
      exact ih _ _ (by omega) (by simp; omega)
    · rw [if_neg he]; simp
theorem readL_len (b : List Int) (hb : ∀ c ∈ b, 0 ≤ c ∧ c ≤ 255) (most : Int) : (readL b most).1.length ≤ b.length := by
  unfold readL
  by_cases he : (getP b).2.2 = 0
  · obtain ⟨y, hy, g1, g2, g3, ⟨r, g4⟩⟩ := getP_step _ hb he
    have hlen : (enc y).length ≤ b.length := by rw [g4]; simp
    rw [if_pos he]
    split
    · simp
    · rw [g2]; exact readN_len b hb _ _ _ (by omega) (by simp)
  · rw [if_neg he]; simp
theorem readN_at (b : List Int) (hb : ∀ c ∈ b, 0 ≤ c ∧ c ≤ 255) (c : Nat) : ∀ (a : Nat) (out : List Int), a ≤ b.length → 0 ≤ (readN b c a out).2.1 ∧ (readN b c a out).2.1 ≤ b.length := by
  induction c with
  | zero => intro a out ha; simp only [readN]; omega
  | succ c ih =>
    intro a out ha
    simp only [readN]
    by_cases he : (getP (b.drop a)).2.2 = 0
    · obtain ⟨y, hy, g1, g2, g3, ⟨r, g4⟩⟩ := getP_step _ (fun c hc => hb c (take_ge b a c hc)) he
      have hlen : (enc y).length ≤ b.length - a := by
        have := congrArg List.length g4
        simp at this
        omega
      rw [if_pos he, g2]
      exact ih _ _ (by omega)
    · rw [if_neg he]; simp
theorem readL_at (b : List Int) (hb : ∀ c ∈ b, 0 ≤ c ∧ c ≤ 255) (most : Int) : 0 ≤ (readL b most).2.1 ∧ (readL b most).2.1 ≤ b.length := by
  unfold readL
  by_cases he : (getP b).2.2 = 0
  · obtain ⟨y, hy, g1, g2, g3, ⟨r, g4⟩⟩ := getP_step _ hb he
    have hlen : (enc y).length ≤ b.length := by rw [g4]; simp
    rw [if_pos he]
    split
    · simp
    · rw [g2]; exact readN_at b hb _ _ _ (by omega)
  · rw [if_neg he]; simp
/-- what a reader's calls tell of the bytes that are left: what is read and what is left then, or an error -/
def wordP (l : List Int) : Except Int (Nat × List Int) := if (getP l).2.2 = 0 then .ok ((getP l).1.toNat, l.drop (getP l).2.1.toNat) else .error (getP l).2.2
def numP (l : List Int) : Except Int (Int × List Int) := match wordP l with | .ok (x, r) => .ok (zagI x, r) | .error e => .error e
def manyP (most : Nat) (l : List Int) : Except Int (Nat × List Int) := match wordP l with | .ok (x, r) => (if x > most then .error 21 else .ok (x, r)) | .error e => .error e
def listP (l : List Int) : Except Int (List Int × List Int) := if (readL l 256).2.2 = 0 then .ok ((readL l 256).1, l.drop (readL l 256).2.1.toNat) else .error (readL l 256).2.2
theorem blk_sz {W : World} {g : Nat} {o : Obj} (h : W.heap[g]? = some o) : g < W.heap.size := (Array.getElem?_eq_some_iff.1 h).1
/-- the reader lies in block gr; what is left of the bytes is l, which lies where it lay in w0 -/
structure Rd (w0 : World) (gr : Nat) (W : World) (l : List Int) : Prop where
  ok : ∀ c ∈ l, 0 ≤ c ∧ c ≤ 255
  len : l.length ≤ 2000000
  below : Below w0.heap.size w0 W
  base : w0.heap.size ≤ gr
  blk : ∃ A c, W.heap[gr]? = some (.cells #[.slice A l.length c] 70 (0, 0)) ∧ Kd.C (Kd.int .u8) w0 A l.length l ∧ l.length ≤ c
/-- what is thrown: a fault with its code -/
def flt (ee : Int) : List PanicEntry := [{ v := .iface 87 (.agg #[.int .i64 ee]), recovered := false }]
theorem Rd.step {w0 W W' : World} {gr : Nat} {l : List Int} (h : Rd w0 gr W l) (hb : Below W.heap.size W W') : Rd w0 gr W' l := by
  obtain ⟨A, c, h1, h2, h3⟩ := h.blk
  exact ⟨h.ok, h.len, h.below.trans (hb.mono (by have := h.below.size; omega)), h.base, A, c, (hb.block _ (blk_sz h1)).trans h1, h2, h3⟩
theorem Rd.lt {w0 W : World} {gr : Nat} {l : List Int} (h : Rd w0 gr W l) : gr < W.heap.size := by
  obtain ⟨A, c, h1, h2, h3⟩ := h.blk
  exact blk_sz h1
theorem Rd.cut {w0 W : World} {gr : Nat} {l : List Int} (n : Nat) (h : Rd w0 gr W l) {A' : Option Addr} {c' : Nat} (hC : Kd.C (Kd.int .u8) w0 A' (l.drop n).length (l.drop n)) (hc : (l.drop n).length ≤ c') : Rd w0 gr (W.setCell ⟨gr, 0, none⟩ (.slice A' (l.drop n).length c')) (l.drop n) := by
  obtain ⟨A, c, h1, h2, h3⟩ := h.blk
  exact ⟨fun c hc => h.ok c (List.mem_of_mem_drop hc), Nat.le_trans (by rw [List.length_drop]; omega) h.len, h.below.setCell h.base _, h.base, A', c', by rw [blk_set h1]; rfl, hC, hc⟩
theorem Rd.other {w0 W : World} {gr : Nat} {l : List Int} (h : Rd w0 gr W l) {g : Nat} (hg : g ≠ gr) (hb : w0.heap.size ≤ g) (j : Nat) (u : Value) : Rd w0 gr (W.setCell ⟨g, j, none⟩ u) l := by
  obtain ⟨A, c, h1, h2, h3⟩ := h.blk
  exact ⟨h.ok, h.len, h.below.setCell hb _, h.base, A, c, (Below.heap_setCell _ _ _ _ (fun e => hg e.symm)).trans h1, h2, h3⟩
theorem Rd.grown {w0 W W' : World} {gr : Nat} {l : List Int} (h : Rd w0 gr W l) {row : Option Nat} (hg : W.grownBy W' row) (hr : ∀ k, row = some k → w0.heap.size ≤ k ∧ k ≠ gr) : Rd w0 gr W' l := by
  obtain ⟨A, c, h1, h2, h3⟩ := h.blk
  exact ⟨h.ok, h.len, h.below.grown hg (by have := h.below.size; omega) (fun k hk => (hr k hk).1), h.base, A, c, (hg.block _ (blk_sz h1) (fun e => (hr gr e.symm).2 rfl)).trans h1, h2, h3⟩
theorem keep_step {W W' : World} {gr : Nat} (hb : Below W.heap.size W W') : KeepBut W W' gr none := KeepBut.of_below hb gr none
theorem keep_self {W : World} {gr : Nat} (j : Nat) (u : Value) : KeepBut W (W.setCell ⟨gr, j, none⟩ u) gr none := (KeepBut.refl W gr none).set_ j u
theorem keep_tr {a b c : World} {gr : Nat} (h : KeepBut a b gr none) (k : KeepBut b c gr none) : KeepBut a c gr none := h.trans k (.inl rfl)
set_option maxHeartbeats 8000000 in
set_option maxRecDepth 100000 in
theorem rword_calls (k gr : Nat) (l : List Int) (x n ee : Int) (w0 W : World) (hR : Rd w0 gr W l) (hg : octet_Get.f k l = some (x, n, ee)) (hn0 : 0 ≤ n) (hn1 : n ≤ l.length) :
    Calls Try.prog 32 #[.pointer (some ⟨gr, 0, none⟩)] W fun e w' => KeepBut W w' gr none ∧ ((ee = 0 ∧ e = .returned (.int .u64 x) ∧ Rd w0 gr w' (l.drop n.toNat)) ∨ (ee ≠ 0 ∧ e = .panicked (flt ee) ∧ Rd w0 gr w' l)) := by
  obtain ⟨A, c, hblk, hC, hc⟩ := hR.blk
  have HR := Aside0.mk hR
  have HG := Aside0.mk hg
  have HC := Aside0.mk (fun W' (hb : Below w0.heap.size w0 W') => Kd.C_below hC hb)
  have HC0 := Aside0.mk hc
  have hc0 : W.cell? ⟨gr, 0, none⟩ = some (.slice A l.length c) := (blk_cell hblk 0).trans rfl
  have hf0 := blk_frozen hblk 0
  clear hR hg hc
  by_cases he : ee = 0
  · subst he
    obtain ⟨i014, hi014, _, hsz14, _⟩ := info_parts info5
    obtain ⟨A', hcut, hA', hC'⟩ := print_drop_of (P := Try.prog) (Value.int .u8) 0 33 5 .i64 Try.underlying33 hi014 hsz14 A c l n hn0 hn1 HC0.out
    have HD := Aside0.mk (Kd.C_of_reads (h1 := fun _ => rfl) (hA' _ (Kd.reads_of_C hC)))
    have HC1 := Aside0.mk hC'
    clear hA' hC' hi014 hsz14 hC
    go_enter Try.func32, Try.ntmps32
    go_wp2_with (first | (go_at_call 49; (with_reducible refine (octet_Get.calls k A c l x n 0 _ (HC.out _ HR.out.below) HC0.out HG.out).mono ?_); rintro e w2 ⟨rfl, ⟨nd, rfl⟩⟩))
    go_ret
    have hR2 := (HR.out.step (pw_below_drewN (Below.refl _ _) nd)).cut n.toNat HD.out HC1.out
    rw [List.length_drop] at hR2
    exact ⟨keep_tr (keep_step (pw_below_drewN (Below.refl _ _) nd)) (keep_self 0 _), .inl ⟨trivial, rfl, hR2⟩⟩
  · go_enter Try.func32, Try.ntmps32
    go_wp2_with (first | (go_at_call 49; (with_reducible refine (octet_Get.calls k A c l x n ee _ (HC.out _ HR.out.below) HC0.out HG.out).mono ?_); rintro e w2 ⟨rfl, ⟨nd, rfl⟩⟩))
    exact ⟨rfl, keep_step (pw_below_drewN (Below.refl _ _) nd), .inr ⟨he, rfl, HR.out.step (pw_below_drewN (Below.refl _ _) nd)⟩⟩
set_option maxHeartbeats 8000000 in
theorem rdword (gr : Nat) (l : List Int) (w0 W : World) (hR : Rd w0 gr W l) :
    Calls Try.prog 32 #[.pointer (some ⟨gr, 0, none⟩)] W fun e w' => KeepBut W w' gr none ∧ ((∃ (x : Nat) (l' : List Int), wordP l = .ok (x, l') ∧ x < 18446744073709551616 ∧ e = .returned (.int .u64 (x : Int)) ∧ Rd w0 gr w' l') ∨ (∃ ee : Int, wordP l = .error ee ∧ ee ≠ 0 ∧ e = .panicked (flt ee) ∧ Rd w0 gr w' l)) := by
  have hg := get_yes l hR.ok hR.len 30 (Nat.le_refl _)
  obtain ⟨⟨x, n, ee⟩, hp⟩ : ∃ q, q = getP l := ⟨_, rfl⟩
  rw [← hp] at hg
  have hn : 0 ≤ n ∧ n ≤ l.length := by
    rcases getP_cases l hR.ok with h | ⟨y, hy, ⟨r, hr⟩, h⟩
    · rw [h] at hp; simp only [Prod.mk.injEq] at hp; omega
    · rw [h] at hp; simp only [Prod.mk.injEq] at hp
      have : l.length = (enc y).length + r.length := by rw [hr, List.length_append]
      omega
  refine (rword_calls 30 gr l x n ee w0 W hR hg hn.1 hn.2).mono ?_
  rintro e w' ⟨hk, ⟨rfl, rfl, hr⟩ | ⟨h0, rfl, hr⟩⟩
  · obtain ⟨y, hy, g1, g2, g3, g4⟩ := getP_step l hR.ok (by rw [← hp])
    rw [← hp] at g1 g2
    simp only at g1 g2
    refine ⟨hk, .inl ⟨y, l.drop n.toNat, ?_, hy, by rw [g1], hr⟩⟩
    unfold wordP
    rw [← hp, if_pos rfl, g1]
    rfl
  · refine ⟨hk, .inr ⟨ee, ?_, h0, rfl, hr⟩⟩
    unfold wordP
    rw [← hp, if_neg h0]
set_option maxHeartbeats 8000000 in
set_option maxRecDepth 100000 in
theorem rdnum (gr : Nat) (l : List Int) (w0 W : World) (hR : Rd w0 gr W l) :
    Calls Try.prog 31 #[.pointer (some ⟨gr, 0, none⟩)] W fun e w' => KeepBut W w' gr none ∧ ((∃ (x : Int) (l' : List Int), numP l = .ok (x, l') ∧ i64b x = true ∧ e = .returned (.int .i64 x) ∧ Rd w0 gr w' l') ∨ (∃ ee : Int, numP l = .error ee ∧ ee ≠ 0 ∧ e = .panicked (flt ee) ∧ Rd w0 gr w' l)) := by
  have HR := Aside0.mk hR
  clear hR
  go_enter Try.func31, Try.ntmps31
  go_wp2_with (fail)
  go_at_call 32
  (with_reducible refine (rdword gr l w0 _ HR.out).mono ?_)
  rintro e w2 ⟨hk, ⟨x, l', h1, hx, rfl, hr⟩ | ⟨ee, h1, h0, rfl, hr⟩⟩
  · have HR2 := Aside0.mk hr
    have HK := Aside0.mk hk
    have hz := zag_yes x hx
    have HZ := Aside0.mk hz
    have H1 := Aside0.mk h1
    clear hz hr hk h1
    go_wp2_with (first | (go_at_call 48; (with_reducible refine (octet_Zag.calls (x : Int) (zagI x) _ HZ.out).mono ?_); rintro e w3 ⟨rfl, ⟨nd, rfl⟩⟩))
    go_ret
    refine ⟨keep_tr HK.out (keep_step (pw_below_drewN (Below.refl _ _) nd)), .inl ⟨zagI x, l', ?_, ?_, rfl, HR2.out.step (pw_below_drewN (Below.refl _ _) nd)⟩⟩
    · unfold numP; rw [H1.out]
    · exact (i64b_iff _).2 (zag_range hx)
  · go_wp2
    refine ⟨rfl, hk, .inr ⟨ee, ?_, h0, rfl, hr⟩⟩
    unfold numP; rw [h1]
set_option maxHeartbeats 8000000 in
set_option maxRecDepth 100000 in
theorem rdmany (most : Nat) (hm : most < 9223372036854775808) (gr : Nat) (l : List Int) (w0 W : World) (hR : Rd w0 gr W l) :
    Calls Try.prog 33 #[.pointer (some ⟨gr, 0, none⟩), .int .i64 (most : Int)] W fun e w' => KeepBut W w' gr none ∧ ((∃ (x : Nat) (l' : List Int), manyP most l = .ok (x, l') ∧ x ≤ most ∧ e = .returned (.int .i64 (x : Int)) ∧ Rd w0 gr w' l') ∨ (∃ ee : Int, manyP most l = .error ee ∧ ee ≠ 0 ∧ e = .panicked (flt ee) ∧ ∃ l', Rd w0 gr w' l')) := by
  have HR := Aside0.mk hR
  have hu := u64_nat hm
  clear hR
  go_enter Try.func33, Try.ntmps33
  go_wp2_with (fail)
  go_at_call 32
  (with_reducible refine (rdword gr l w0 _ HR.out).mono ?_)
  rintro e w2 ⟨hk, ⟨x, l', h1, hx, rfl, hr⟩ | ⟨ee, h1, h0, rfl, hr⟩⟩
  · have HR2 := Aside0.mk hr
    have HK := Aside0.mk hk
    have H1 := Aside0.mk h1
    clear hr hk h1
    by_cases hc : (x : Int) > (most : Int)
    · have hcb : decide ((x : Int) > (most : Int)) = true := decide_eq_true hc
      go_wp2
      exact ⟨rfl, HK.out, .inr ⟨21, by unfold manyP; rw [H1.out]; exact if_pos (by omega), by decide, rfl, l', HR2.out⟩⟩
    · have hcb : decide ((x : Int) > (most : Int)) = false := decide_eq_false hc
      have hw : wrap64 (x : Int) = (x : Int) := by rw [wrap64]; omega
      go_wp2
      go_ret
      refine ⟨HK.out, .inl ⟨x, l', by unfold manyP; rw [H1.out]; exact if_neg (by omega), by omega, ?_, HR2.out⟩⟩
      first | rfl | simp [hw]
  · go_wp2
    refine ⟨rfl, hk, .inr ⟨ee, ?_, h0, rfl, l, hr⟩⟩
    unfold manyP; rw [h1]
set_option maxHeartbeats 8000000 in
set_option maxRecDepth 100000 in
theorem rdend (gr : Nat) (l : List Int) (w0 W : World) (hR : Rd w0 gr W l) :
    Calls Try.prog 35 #[.pointer (some ⟨gr, 0, none⟩)] W fun e w' => w' = W ∧ ((l = [] ∧ e = .returned (.tuple #[])) ∨ (l ≠ [] ∧ e = .panicked (flt 20))) := by
  obtain ⟨A, c, hblk, hC, hc⟩ := hR.blk
  have hc0 : W.cell? ⟨gr, 0, none⟩ = some (.slice A l.length c) := (blk_cell hblk 0).trans rfl
  clear hR
  by_cases hl : (l.length : Int) > 0
  · have hlb : decide ((l.length : Int) > 0) = true := decide_eq_true hl
    go_enter Try.func35, Try.ntmps35
    go_wp2
    exact ⟨rfl, rfl, .inr ⟨fun h => by rw [h] at hl; simp at hl, rfl⟩⟩
  · have hlb : decide ((l.length : Int) > 0) = false := decide_eq_false hl
    go_enter Try.func35, Try.ntmps35
    go_wp2
    go_end0
    exact ⟨rfl, .inl ⟨List.length_eq_zero_iff.1 (by omega), rfl⟩⟩
set_option maxHeartbeats 8000000 in
set_option maxRecDepth 100000 in
theorem rdlist (gr : Nat) (l : List Int) (w0 W : World) (hR : Rd w0 gr W l) :
    Calls Try.prog 34 #[.pointer (some ⟨gr, 0, none⟩)] W fun e w' => KeepBut W w' gr none ∧ ((∃ (x : List Int) (l' : List Int), listP l = .ok (x, l') ∧ (∃ v, e = .returned v ∧ (Kd.int .i64).R 3 w' W.heap.size (fun _ => True) v x) ∧ Rd w0 gr w' l') ∨ (∃ ee : Int, listP l = .error ee ∧ ee ≠ 0 ∧ e = .panicked (flt ee) ∧ Rd w0 gr w' l)) := by
  have hg := getlist_yes l hR.ok hR.len 256 (by decide) (by decide) (l.length + 50) (Nat.le_refl _)
  obtain ⟨⟨x, n, ee⟩, hp⟩ : ∃ q, q = readL l 256 := ⟨_, rfl⟩
  rw [← hp] at hg
  have hlp : listP l = if ee = 0 then .ok (x, l.drop n.toNat) else .error ee := by unfold listP; rw [← hp]
  have hn := readL_at l hR.ok 256
  rw [← hp] at hn
  simp only at hn
  obtain ⟨A, c, hblk, hC, hc⟩ := hR.blk
  have HR := Aside0.mk hR
  have HG := Aside0.mk hg
  have HC := Aside0.mk (fun W' (hb : Below w0.heap.size w0 W') => Kd.C_below hC hb)
  have HC0 := Aside0.mk hc
  have hc0 : W.cell? ⟨gr, 0, none⟩ = some (.slice A l.length c) := (blk_cell hblk 0).trans rfl
  have hf0 := blk_frozen hblk 0
  have HP := Aside0.mk hlp
  clear hR hg hc hp hlp
  have hlt := blk_sz hblk
  by_cases he : ee = 0
  · subst he
    obtain ⟨i014, hi014, _, hsz14, _⟩ := info_parts info5
    obtain ⟨A', hcut, hA', hC'⟩ := print_drop_of (P := Try.prog) (Value.int .u8) 0 33 5 .i64 Try.underlying33 hi014 hsz14 A c l n hn.1 hn.2 HC0.out
    have HD := Aside0.mk (Kd.C_of_reads (h1 := fun _ => rfl) (hA' _ (Kd.reads_of_C hC)))
    have HC1 := Aside0.mk hC'
    clear hA' hC' hi014 hsz14 hC
    go_enter Try.func34, Try.ntmps34
    go_wp2_with (fail)
    go_at_call 50
    (with_reducible refine (octet_GetList.calls (l.length + 50) A c l 256 x n 0 _ (HC.out _ HR.out.below) HC0.out HG.out).mono ?_)
    rintro e w2 ⟨vl, rfl, hvl, hb2⟩
    have hblk2 := (hb2.block _ hlt).trans hblk
    have hc2 : w2.cell? ⟨gr, 0, none⟩ = some (.slice A l.length c) := (blk_cell hblk2 0).trans rfl
    have hf2 := blk_frozen hblk2 0
    have HV := Aside0.mk hvl
    have HB2 := Aside0.mk hb2
    have HBK := Aside0.mk hblk2
    clear hvl hb2 hblk2
    go_wp2
    go_ret
    have hR2 := (HR.out.step HB2.out).cut n.toNat HD.out HC1.out
    have hv2 := Kd.R_mono (Kd.R_far (Kd.R_bound HV.out) (p := ⟨gr, 0, none⟩) (fun k hk => by have := hk.2.1; show k ≠ gr; omega) (.slice A' (l.drop n.toNat).length (c - n.toNat))) (fun _ _ => trivial)
    rw [List.length_drop] at hR2 hv2
    exact ⟨keep_tr (keep_step HB2.out) (keep_self 0 _), .inl ⟨x, l.drop n.toNat, by have := HP.out; simpa using this, ⟨vl, rfl, hv2⟩, hR2⟩⟩
  · go_enter Try.func34, Try.ntmps34
    go_wp2_with (fail)
    go_at_call 50
    (with_reducible refine (octet_GetList.calls (l.length + 50) A c l 256 x n ee _ (HC.out _ HR.out.below) HC0.out HG.out).mono ?_)
    rintro e w2 ⟨vl, rfl, hvl, hb2⟩
    go_wp2
    exact ⟨rfl, keep_step hb2, .inr ⟨ee, by rw [HP.out, if_neg he], he, rfl, HR.out.step hb2⟩⟩
theorem assert_nil (W : World) : (Instr.typeAssert .nilIface 20 87 true).run Try.prog W = .ok (.tuple #[.agg #[.int .i64 0], .bool false]) W := by kernel_rfl
theorem assert_flt (v : Value) (W : World) : (Instr.typeAssert (.iface 87 v) 20 87 true).run Try.prog W = .ok (.tuple #[v, .bool true]) W := by kernel_rfl
set_option maxHeartbeats 8000000 in
set_option maxRecDepth 100000 in
theorem caught_nil (W : World) : Calls Try.prog 30 #[.nilIface] W fun e w' => e = .returned (.int .i64 0) ∧ Below W.heap.size W w' := by
  have ha := assert_nil
  go_enter Try.func30, Try.ntmps30
  go_wp2
  go_ret
  exact ⟨rfl, below_alloc (Below.refl _ _) _⟩
set_option maxHeartbeats 8000000 in
set_option maxRecDepth 100000 in
theorem caught_flt (ee : Int) (W : World) : Calls Try.prog 30 #[.iface 87 (.agg #[.int .i64 ee])] W fun e w' => e = .returned (.int .i64 ee) ∧ Below W.heap.size W w' := by
  have ha := assert_flt
  go_enter Try.func30, Try.ntmps30
  go_wp2
  go_ret
  exact ⟨rfl, below_alloc (Below.refl _ _) _⟩
set_option maxHeartbeats 8000000 in
set_option maxRecDepth 100000 in
theorem unlogX_ret (ge gl : Nat) (x : Int) (W : World) (he : W.heap[ge]? = some (.cells #[.int .i64 x] 34 (0, 0))) :
    CallsD Try.prog 41 #[.pointer (some ⟨ge, 0, none⟩), .pointer (some ⟨gl, 0, none⟩)] .returning W fun e u' w' => e = .returned (.tuple #[]) ∧ u' = .returning ∧ ∃ W1, Below W.heap.size W W1 ∧ w' = W1.setCell ⟨ge, 0, none⟩ (.int .i64 0) := by
  refine callsD_of_wpS Try.func41 rfl fun c₀ cs hu => ?_
  apply wpS_seq
  apply wpS_region
  simp [wpOpsS, go_sem, recoverD, hu, Try.ntmps41, Exit.thenS]
  refine (caught_nil W).mono ?_
  rintro e w1 ⟨rfl, hb⟩
  have he1 := (hb.block _ (blk_sz he)).trans he
  have hc1 : w1.cell? ⟨ge, 0, none⟩ = some (.int .i64 x) := (blk_cell he1 0).trans rfl
  have hf1 := blk_frozen he1 0
  have hc2 : (w1.setCell ⟨ge, 0, none⟩ (.int .i64 0)).cell? ⟨ge, 0, none⟩ = some (.int .i64 0) := (blk_cell (blk_set he1 0 _) 0).trans rfl
  simp [go_sem, hc1, hf1]
  apply wpS_seq
  apply wpS_region
  simp [wpOpsS, go_sem, hc2, Exit.thenS]
  refine wpS_cond (t := false) (by simp [Act.eval, Array.replicate]) ?_
  simp only [Bool.false_eq_true, if_false]
  refine wpS_of_wp (wp_skip ?_)
  cases c₀
  simp_all [bodyPostS, results, Try.results41]
  exact ⟨w1, hb, rfl⟩
set_option maxHeartbeats 8000000 in
set_option maxRecDepth 100000 in
theorem unlogX_pan (ge gl : Nat) (hne : ge ≠ gl) (x ee : Int) (hee : ee ≠ 0) (v : Value) (W : World) (he : W.heap[ge]? = some (.cells #[.int .i64 x] 34 (0, 0))) (hl : W.heap[gl]? = some (.cells #[v] 29 (0, 0))) :
    CallsD Try.prog 41 #[.pointer (some ⟨ge, 0, none⟩), .pointer (some ⟨gl, 0, none⟩)] (.panicking (flt ee)) W fun e u' w' => e = .returned (.tuple #[]) ∧ u' = .panicking [{ v := .iface 87 (.agg #[.int .i64 ee]), recovered := true }] ∧ ∃ W1, Below W.heap.size W W1 ∧ w' = (W1.setCell ⟨ge, 0, none⟩ (.int .i64 ee)).setCell ⟨gl, 0, none⟩ (.slice none 0 0) := by
  refine callsD_of_wpS Try.func41 rfl fun c₀ cs hu => ?_
  unfold flt at hu
  apply wpS_seq
  apply wpS_region
  simp [wpOpsS, go_sem, recoverD, hu, Try.ntmps41, Exit.thenS]
  refine (caught_flt ee W).mono ?_
  rintro e w1 ⟨rfl, hb⟩
  have he1 := (hb.block _ (blk_sz he)).trans he
  have hl1 := (hb.block _ (blk_sz hl)).trans hl
  have hc1 : w1.cell? ⟨ge, 0, none⟩ = some (.int .i64 x) := (blk_cell he1 0).trans rfl
  have hf1 := blk_frozen he1 0
  have hc2 : (w1.setCell ⟨ge, 0, none⟩ (.int .i64 ee)).cell? ⟨ge, 0, none⟩ = some (.int .i64 ee) := (blk_cell (blk_set he1 0 _) 0).trans rfl
  have hl2 := (Below.heap_setCell w1 ⟨ge, 0, none⟩ (.int .i64 ee) gl (fun e => hne e.symm)).trans hl1
  have hc3 : (w1.setCell ⟨ge, 0, none⟩ (.int .i64 ee)).cell? ⟨gl, 0, none⟩ = some v := (blk_cell hl2 0).trans rfl
  have hf3 := blk_frozen hl2 0
  simp [go_sem, hc1, hf1]
  apply wpS_seq
  apply wpS_region
  simp [wpOpsS, go_sem, hc2, Exit.thenS]
  refine wpS_cond (t := true) (by simp [Act.eval, Array.replicate, hee]) ?_
  simp only [if_true]
  apply wpS_region
  cases c₀
  simp_all [wpOpsS, go_sem, hc3, hf3, bodyPostS, results, Try.results41]
  exact ⟨w1, hb, rfl⟩
def evP (l : List Int) : Except Int (S56 × List Int) :=
  match numP l with
  | .error e => .error e
  | .ok (a, l1) => match numP l1 with
    | .error e => .error e
    | .ok (b, l2) => match numP l2 with
      | .error e => .error e
      | .ok (c, l3) => match numP l3 with
        | .error e => .error e
        | .ok (d, l4) => match wordP l4 with
          | .error e => .error e
          | .ok (p, l5) => match numP l5 with
            | .error e => .error e
            | .ok (q, l6) => match listP l6 with
              | .error e => .error e
              | .ok (z, l7) => .ok (⟨a, b, c, d, (p : Int), q, z⟩, l7)
def evsP : Nat → List Int → Except Int (List S56 × List Int)
  | 0, l => .ok ([], l)
  | n + 1, l => match evP l with
    | .error e => .error e
    | .ok (x, l1) => match evsP n l1 with
      | .error e => .error e
      | .ok (xs, l2) => .ok (x :: xs, l2)
def finP (acc : List S56) : Except Int (List S56 × List Int) → Except Int (List S56)
  | .error e => .error e
  | .ok (xs, []) => .ok (acc ++ xs)
  | .ok (_, _ :: _) => .error 20
def unlogP (l : List Int) : Except Int (List S56) :=
  match manyP 65536 l with
  | .error e => .error e
  | .ok (n, l1) => finP [] (evsP n l1)
def outP {α : Type} (z : α) : Except Int α → α × Int
  | .ok x => (x, 0)
  | .error e => (z, e)
def pack_Unlog.f (l0 : List Int) : Option (List S56 × Int) := if l0.length ≤ 2000000 ∧ (l0.all fun c => decide (0 ≤ c) && decide (c ≤ 255)) = true then some (outP [] (unlogP l0)) else none
structure Un (w : World) (gl ge gr : Nat) (ok : Nat → Prop) (W : World) (v : Value) (acc : List S56) : Prop where
  g1 : w.heap.size ≤ gl
  g2 : w.heap.size ≤ ge
  n1 : gl ≠ ge
  n2 : gl ≠ gr
  n3 : ge ≠ gr
  bl : W.heap[gl]? = some (.cells #[v] 29 (0, 0))
  be : W.heap[ge]? = some (.cells #[.int .i64 0] 34 (0, 0))
  S : Kd.S k56 56 W w.heap.size ok v acc
section
variable {w W W' : World} {gl ge gr gx : Nat} {ok ok' : Nat → Prop} {v v1 : Value} {acc acc1 : List S56} {l : List Int}
theorem Un.below (h : Un w gl ge gr ok W v acc) (hb : Below W.heap.size W W') : Un w gl ge gr ok W' v acc :=
  ⟨h.g1, h.g2, h.n1, h.n2, h.n3, (hb.block _ (blk_sz h.bl)).trans h.bl, (hb.block _ (blk_sz h.be)).trans h.be, Kd.S_below h.S hb⟩
theorem Un.keep (h : Un w gl ge gr ok W v acc) (hR : Rd w gr W l) (hk : KeepBut W W' gr none) : Un w gl ge gr ok W' v acc := by
  obtain ⟨A, c, h1, _, _⟩ := hR.blk
  exact ⟨h.g1, h.g2, h.n1, h.n2, h.n3, hk.blk h.bl h.n2 (by simp), hk.blk h.be h.n3 (by simp), Kd.S_mono (Kd.S_keep (Kd.S_types h.S h1 (by decide)) hk (fun _ hk => hk.2)) (fun _ hk => hk.1)⟩
theorem Un.mono (h : Un w gl ge gr ok W v acc) (hok : ∀ k, ok k → ok' k) : Un w gl ge gr ok' W v acc := ⟨h.g1, h.g2, h.n1, h.n2, h.n3, h.bl, h.be, Kd.S_mono h.S hok⟩
theorem Un.bound (h : Un w gl ge gr ok W v acc) : Un w gl ge gr (fun k => ok k ∧ k < W.heap.size) W v acc := ⟨h.g1, h.g2, h.n1, h.n2, h.n3, h.bl, h.be, Kd.S_mono (Kd.S_bound h.S) (fun _ hk => ⟨hk.1, hk.2.2.1⟩)⟩
theorem Un.far (h : Un w gl ge gr ok W v acc) (h1 : gx ≠ gl) (h2 : gx ≠ ge) (hok : ∀ k, ok k → k ≠ gx) (j : Nat) (u : Value) : Un w gl ge gr ok (W.setCell ⟨gx, j, none⟩ u) v acc :=
  ⟨h.g1, h.g2, h.n1, h.n2, h.n3, (Below.heap_setCell W ⟨gx, j, none⟩ u gl (fun e => h1 e.symm)).trans h.bl, (Below.heap_setCell W ⟨gx, j, none⟩ u ge (fun e => h2 e.symm)).trans h.be, Kd.S_far h.S (p := ⟨gx, j, none⟩) hok u⟩
theorem Un.push (h : Un w gl ge gr ok W v acc) (hg : W.grownBy W' v.ownBlock) (hS : Kd.S k56 56 W' w.heap.size ok' v1 acc1) : Un w gl ge gr ok' (W'.setCell ⟨gl, 0, none⟩ v1) v1 acc1 := by
  have hbl := (hg.block _ (blk_sz h.bl) (Kd.R_ne (Kd.S_R h.S) h.bl (by decide))).trans h.bl
  have hbe := (hg.block _ (blk_sz h.be) (Kd.R_ne (Kd.S_R h.S) h.be (by decide))).trans h.be
  exact ⟨h.g1, h.g2, h.n1, h.n2, h.n3, blk_set hbl 0 v1, (Below.heap_setCell W' ⟨gl, 0, none⟩ v1 ge (fun e => h.n1 e.symm)).trans hbe, Kd.S_mono (Kd.S_far (Kd.S_types hS hbl (by decide)) (p := ⟨gl, 0, none⟩) (fun _ hk => hk.2) v1) (fun _ hk => hk.1)⟩
theorem Un.rd (h : Un w gl ge gr ok W v acc) (hR : Rd w gr W l) (hg : W.grownBy W' v.ownBlock) : Rd w gr (W'.setCell ⟨gl, 0, none⟩ v1) l := by
  obtain ⟨A, c, h1, _, _⟩ := hR.blk
  refine (hR.grown hg (fun k hk => ⟨Kd.S_base h.S k hk, fun e => ?_⟩)).other h.n2 h.g1 0 v1
  subst e
  exact Kd.R_ne (Kd.S_R h.S) h1 (by decide) hk.symm
end
theorem unlog_res {tmps : Array Value} {gl ge : Nat} {v x : Value} {W : World} (h2 : tmps[2]? = some (.pointer (some ⟨gl, 0, none⟩))) (h3 : tmps[3]? = some (.pointer (some ⟨ge, 0, none⟩))) (hl : W.heap[gl]? = some (.cells #[v] 29 (0, 0))) (he : W.heap[ge]? = some (.cells #[x] 34 (0, 0))) :
    (results Try.f16 tmps).run Try.prog W = .ok (.tuple #[v, x]) W := by
  have h1 : W.cell? ⟨gl, 0, none⟩ = some v := (blk_cell hl 0).trans rfl
  have h4 : W.cell? ⟨ge, 0, none⟩ = some x := (blk_cell he 0).trans rfl
  simp [results, Try.results16, go_sem, h2, h3, h1, h4]
theorem unlog_thrown {R : Ending → World → Prop} {tmps : Array Value} {w W : World} {gl ge gr : Nat} {ok : Nat → Prop} {v : Value} {acc : List S56} {l : List Int} (ee : Int) (hee : ee ≠ 0) (hU : Un w gl ge gr ok W v acc) (hR : Rd w gr W l) (h2 : tmps[2]? = some (.pointer (some ⟨gl, 0, none⟩))) (h3 : tmps[3]? = some (.pointer (some ⟨ge, 0, none⟩)))
    (hfin : ∀ w', Below w.heap.size w w' → R (.returned (.tuple #[.slice none 0 0, .int .i64 ee])) w') :
    Leaves Try.prog Try.f16 tmps R [{ target := .fn (.func 41) #[.pointer (some ⟨ge, 0, none⟩), .pointer (some ⟨gl, 0, none⟩)], args := #[] }] (.panicking (flt ee)) W := by
  refine leaves_cons (f := 41) (args := #[.pointer (some ⟨ge, 0, none⟩), .pointer (some ⟨gl, 0, none⟩)]) (by simp) (by simp [go_sem]) ?_
  refine (unlogX_pan ge gl (fun e => hU.n1 e.symm) 0 ee hee v W hU.be hU.bl).mono ?_
  rintro e u' w' ⟨rfl, rfl, W1, hb, rfl⟩
  have hU1 := hU.below hb
  have he1 := blk_set hU1.be 0 (.int .i64 ee)
  have hl1 := (Below.heap_setCell W1 ⟨ge, 0, none⟩ (.int .i64 ee) gl hU.n1).trans hU1.bl
  have hl2 := blk_set hl1 0 (.slice none 0 0)
  have he2 := (Below.heap_setCell (W1.setCell ⟨ge, 0, none⟩ (.int .i64 ee)) ⟨gl, 0, none⟩ (.slice none 0 0) ge (fun e => hU.n1 e.symm)).trans he1
  have hB := (((hR.below.trans (hb.mono (by have := hR.below.size; omega))).setCell hU.g2 (.int .i64 ee) (p := ⟨ge, 0, none⟩)).setCell hU.g1 (.slice none 0 0) (p := ⟨gl, 0, none⟩))
  exact ⟨_, unlog_res h2 h3 hl2 he2, hfin _ hB⟩
theorem unlog_left {R : Ending → World → Prop} {tmps : Array Value} {w W : World} {gl ge gr : Nat} {ok : Nat → Prop} {v : Value} {acc : List S56} {l : List Int} (hU : Un w gl ge gr ok W v acc) (hR : Rd w gr W l) (h2 : tmps[2]? = some (.pointer (some ⟨gl, 0, none⟩))) (h3 : tmps[3]? = some (.pointer (some ⟨ge, 0, none⟩)))
    (hfin : ∀ w', Kd.S k56 56 w' w.heap.size ok v acc → Below w.heap.size w w' → R (.returned (.tuple #[v, .int .i64 0])) w') :
    Leaves Try.prog Try.f16 tmps R [{ target := .fn (.func 41) #[.pointer (some ⟨ge, 0, none⟩), .pointer (some ⟨gl, 0, none⟩)], args := #[] }] .returning ((W.setCell ⟨gl, 0, none⟩ v).setCell ⟨ge, 0, none⟩ (.int .i64 0)) := by
  have hl0 := blk_set hU.bl 0 v
  have hl1 := (Below.heap_setCell (W.setCell ⟨gl, 0, none⟩ v) ⟨ge, 0, none⟩ (.int .i64 0) gl hU.n1).trans hl0
  have he0 := (Below.heap_setCell W ⟨gl, 0, none⟩ v ge (fun e => hU.n1 e.symm)).trans hU.be
  have he1 := blk_set he0 0 (.int .i64 0)
  have hS1 := Kd.S_mono (Kd.S_far (Kd.S_types hU.S hU.bl (by decide)) (p := ⟨gl, 0, none⟩) (fun _ hk => hk.2) v) (ok' := ok) (fun _ hk => hk.1)
  have hS2 := Kd.S_mono (Kd.S_far (Kd.S_types hS1 he0 (by decide)) (p := ⟨ge, 0, none⟩) (fun _ hk => hk.2) (.int .i64 0)) (ok' := ok) (fun _ hk => hk.1)
  have hB := ((hR.below.setCell hU.g1 v (p := ⟨gl, 0, none⟩)).setCell hU.g2 (.int .i64 0) (p := ⟨ge, 0, none⟩))
  generalize (W.setCell ⟨gl, 0, none⟩ v).setCell ⟨ge, 0, none⟩ (.int .i64 0) = W3 at *
  refine leaves_cons (f := 41) (args := #[.pointer (some ⟨ge, 0, none⟩), .pointer (some ⟨gl, 0, none⟩)]) (by simp) (by simp [go_sem]) ?_
  refine (unlogX_ret ge gl 0 W3 he1).mono ?_
  rintro e u' w' ⟨rfl, rfl, W1, hb, rfl⟩
  have hl2 := (hb.block _ (blk_sz hl1)).trans hl1
  have he2 := (hb.block _ (blk_sz he1)).trans he1
  have hl3 := (Below.heap_setCell W1 ⟨ge, 0, none⟩ (.int .i64 0) gl hU.n1).trans hl2
  have he3 := blk_set he2 0 (.int .i64 0)
  have hS3 := Kd.S_below hS2 hb
  have hS4 := Kd.S_mono (Kd.S_far (Kd.S_types hS3 he2 (by decide)) (p := ⟨ge, 0, none⟩) (fun _ hk => hk.2) (.int .i64 0)) (ok' := ok) (fun _ hk => hk.1)
  have hB2 := (hB.trans (hb.mono (by have := hB.size; omega))).setCell hU.g2 (.int .i64 0) (p := ⟨ge, 0, none⟩)
  exact ⟨_, unlog_res h2 h3 hl3 he3, hfin _ hS4 hB2⟩
theorem evs_err {n i : Nat} {acc : List S56} {l : List Int} {ee : Int} (h : i < n) (he : evP l = .error ee) : finP acc (evsP (n - i) l) = .error ee := by
  rw [show n - i = (n - i - 1) + 1 by omega]
  simp only [evsP, he, finP]
theorem evs_next {n i : Nat} {acc : List S56} {l l1 : List Int} {x : S56} (h : i < n) (he : evP l = .ok (x, l1)) : finP acc (evsP (n - i) l) = finP (acc ++ [x]) (evsP (n - (i + 1)) l1) := by
  rw [show n - i = (n - (i + 1)) + 1 by omega]
  simp only [evsP, he]
  cases evsP (n - (i + 1)) l1 with
  | error e => rfl
  | ok p =>
    obtain ⟨xs, r⟩ := p
    cases r with
    | nil => simp [finP]
    | cons c r => rfl
theorem un_err {l0 : List Int} {r1 : List S56} {r2 ee : Int} (h : outP [] (unlogP l0) = (r1, r2)) (he : unlogP l0 = .error ee) : r1 = [] ∧ r2 = ee := by
  rw [he] at h
  simp only [outP, Prod.mk.injEq] at h
  exact ⟨h.1.symm, h.2.symm⟩
theorem un_ok {l0 : List Int} {xs r1 : List S56} {r2 : Int} (h : outP [] (unlogP l0) = (r1, r2)) (he : unlogP l0 = .ok xs) : r1 = xs ∧ r2 = 0 := by
  rw [he] at h
  simp only [outP, Prod.mk.injEq] at h
  exact ⟨h.1.symm, h.2.symm⟩
set_option maxHeartbeats 8000000 in
set_option maxRecDepth 100000 in
theorem pack_Unlog.calls (A0 : Option Addr) (c0 : Nat) (l0 : List Int) (r1 : List S56) (r2 : Int) (w : World) (hr0 : Kd.C (Kd.int .u8) w A0 l0.length l0) (hc0 : l0.length ≤ c0) (h : pack_Unlog.f l0 = some (r1, r2)) :
    Calls Try.prog 16 #[.slice A0 l0.length c0] w fun e w' => ∃ v0_ : Value, e = .returned (.tuple #[v0_, .int .i64 r2]) ∧ Kd.S k56 56 w' w.heap.size (fun _ => True) v0_ r1 ∧ Below w.heap.size w w' := by
  have hmf : ∀ (fn : Fn) (first cap : Array Value) (w : World), (Instr.makeFunc fn first cap).run Try.prog w = .ok (.func fn first cap) w := fun _ _ _ _ => rfl
  have HC0 := Aside0.mk hr0
  have HC1 := Aside0.mk hc0
  have hg : l0.length ≤ 2000000 ∧ (l0.all fun c => decide (0 ≤ c) && decide (c ≤ 255)) = true := by
    unfold pack_Unlog.f at h
    split at h
    · assumption
    · cases h
  unfold pack_Unlog.f at h
  rw [if_pos hg] at h
  have HG := Aside0.mk hg
  have H := Aside0.mk (Option.some.inj h)
  clear h hg hr0 hc0
  go_enter_defers Try.func16, Try.ntmps16
  go_upto_region 3 with (fail)
  have hbl := blk_new w (.cells #[.slice none 0 0] 29)
  have hb1 : Below (w.alloc (.cells #[.slice none 0 0] 29)).heap.size _ _ := below_alloc (Below.refl _ _) (.cells #[.int .i64 0] 34)
  have hb0 := below_alloc (Below.refl w.heap.size w) (.cells #[.slice none 0 0] 29)
  have hbe := blk_new (w.alloc (.cells #[.slice none 0 0] 29)) (.cells #[.int .i64 0] 34)
  have hb2 : Below ((w.alloc (.cells #[.slice none 0 0] 29)).alloc (.cells #[.int .i64 0] 34)).heap.size _ _ := below_alloc (Below.refl _ _) (.cells #[.slice A0 l0.length c0] 70)
  have hbr := blk_new ((w.alloc (.cells #[.slice none 0 0] 29)).alloc (.cells #[.int .i64 0] 34)) (.cells #[.slice A0 l0.length c0] 70)
  have hs1 : (w.alloc (.cells #[.slice none 0 0] 29)).heap.size = w.heap.size + 1 := by simp
  have hs2 : ((w.alloc (.cells #[.slice none 0 0] 29)).alloc (.cells #[.int .i64 0] 34)).heap.size = w.heap.size + 1 + 1 := by simp
  rw [hs1] at hbe hb1
  rw [hs2] at hbr hb2
  have hbl2 := (hb2.block w.heap.size (by omega)).trans ((hb1.block w.heap.size (by omega)).trans hbl)
  have hbe2 := (hb2.block (w.heap.size + 1) (by omega)).trans hbe
  have hU : Un w w.heap.size (w.heap.size + 1) (w.heap.size + 1 + 1) (fun _ => True) _ (.slice none 0 0) [] := ⟨Nat.le_refl _, by omega, by omega, by omega, by omega, hbl2, hbe2, Kd.S_nil _ _ _ _ _⟩
  have hR : Rd w (w.heap.size + 1 + 1) _ l0 := ⟨fun c hc => by have := List.all_eq_true.1 HG.out.2 c hc; simpa using this, HG.out.1, (hb0.trans (hb1.mono (by omega))).trans (hb2.mono (by omega)), by omega, A0, c0, hbr, HC0.out, HC1.out⟩
  clear hbl hb1 hb0 hbe hb2 hbr hs1 hs2 hbl2 hbe2
  generalize ((w.alloc (.cells #[.slice none 0 0] 29)).alloc (.cells #[.int .i64 0] 34)).alloc (.cells #[.slice A0 l0.length c0] 70) = W at *
  obtain ⟨gr, hgr⟩ : ∃ gr, gr = w.heap.size + 1 + 1 := ⟨_, rfl⟩
  obtain ⟨ge, hge⟩ : ∃ ge, ge = w.heap.size + 1 := ⟨_, rfl⟩
  obtain ⟨gl, hgl⟩ : ∃ gl, gl = w.heap.size := ⟨_, rfl⟩
  rw [← hgr] at hR hU ⊢
  rw [← hge] at hU ⊢
  rw [← hgl]
  have hU : Un w gl ge gr (fun _ => True) W (.slice none 0 0) [] := by rw [hgl]; exact hU
  clear hgr hge hgl
  have HU := Aside0.mk hU
  have HR := Aside0.mk hR
  clear hU hR
  go_wp2_with (fail)
  go_at_call 33
  refine (rdmany 65536 (by decide) gr l0 w _ HR.out).mono ?_
  rintro e w2 ⟨hk, ⟨n, l1, h1, hn, rfl, hr⟩ | ⟨ee, h1, h0, rfl, l', hr⟩⟩
  rotate_left
  · go_wp2
    obtain ⟨rfl, rfl⟩ := un_err H.out (show unlogP l0 = .error ee by unfold unlogP; rw [h1])
    exact unlog_thrown r2 h0 (HU.out.keep HR.out hk) hr rfl rfl (fun w' hb => ⟨_, rfl, Kd.S_nil _ _ _ _ _, hb⟩)
  have HF := Aside0.mk (show finP [] (evsP n l1) = unlogP l0 by unfold unlogP; rw [h1])
  have HU2 := Aside0.mk (HU.out.keep HR.out hk)
  have HR2 := Aside0.mk hr
  clear HU HR hk hr h1
  go_wp2_with (fail)
  go_loopg [12] (n + 1) (fun kq v12 wc => ∃ (i : Nat) (v : Value) (acc : List S56) (l' : List Int), i ≤ n ∧ n < i + kq ∧ v12 = .int .i64 (i : Int) ∧ Aside0 (acc.length = i) ∧ Aside0 (Un w gl ge gr (fun _ => True) wc v acc) ∧ Aside0 (Rd w gr wc l') ∧ Aside0 (finP acc (evsP (n - i) l') = unlogP l0))
  case atStart => exact ⟨0, _, [], l1, by omega, by omega, rfl, ⟨rfl⟩, HU2, HR2, HF⟩
  case round =>
    clear HU2 HR2 HF
    obtain ⟨i, v, acc, l', hi, hik, rfl, HL, HU, HR, HF⟩ := hrel
    cases gk with
    | zero => omega
    | succ g =>
    by_cases hlt : i < n
    · have c1b : decide ((i : Int) < (n : Int)) = true := decide_eq_true (by omega)
      go_upto_region 6 with (fail)
      have hbx := blk_new wr (.cells #[.int .i64 0, .int .i64 0, .int .i64 0, .int .i64 0, .int .u64 0, .int .i64 0, .slice none 0 0] 56)
      have hax : Below wr.heap.size wr _ := below_alloc (Below.refl _ _) (.cells #[.int .i64 0, .int .i64 0, .int .i64 0, .int .i64 0, .int .u64 0, .int .i64 0, .slice none 0 0] 56)
      have hU1 := HU.out.bound.below hax
      have hR1 := HR.out.step hax
      have q1 := blk_sz HU.out.bl
      have q2 := blk_sz HU.out.be
      have q3 := HR.out.lt
      have q4 := HU.out.g1
      clear HU HR hax
      generalize wr.alloc (.cells #[.int .i64 0, .int .i64 0, .int .i64 0, .int .i64 0, .int .u64 0, .int .i64 0, .slice none 0 0] 56) = W1 at *
      obtain ⟨gx, hgx⟩ : ∃ gx, gx = wr.heap.size := ⟨_, rfl⟩
      rw [← hgx] at hbx q1 q2 q3 hU1 ⊢
      have x1 : gx ≠ gl := by omega
      have x2 : gx ≠ ge := by omega
      have x3 : gx ≠ gr := by omega
      have X4 : Aside0 (w.heap.size ≤ gx) := ⟨by omega⟩
      clear q1 q2 q3 q4 hgx
      have HU0 := Aside0.mk (hU1.mono (ok' := fun k => k < gx) (fun _ hk => hk.2))
      have HR0 := Aside0.mk hR1
      have HX0 := Aside0.mk hbx
      clear hU1 hR1 hbx
      go_wp2_with (fail)
      go_at_call 31
      (with_reducible refine (rdnum gr l' w _ HR0.out).mono ?_)
      rintro e W2 ⟨hk, ⟨a, m1, h1, _, rfl, hr⟩ | ⟨ee, h1, h0, rfl, hr⟩⟩
      rotate_left
      · go_wp2
        obtain ⟨rfl, rfl⟩ := un_err H.out (HF.out.symm.trans (evs_err (ee := ee) hlt (by simp only [evP, h1])))
        exact unlog_thrown r2 h0 (HU0.out.keep HR0.out hk) hr rfl rfl (fun w' hb => ⟨_, rfl, Kd.S_nil _ _ _ _ _, hb⟩)
      have HU1 := Aside0.mk (HU0.out.keep HR0.out hk)
      have HX1 := Aside0.mk (hk.blk HX0.out x3 (by simp))
      have HR1 := Aside0.mk hr
      have Ha := Aside0.mk h1
      clear hr h1 hk HU0 HX0 HR0
      go_wp2_with (fail)
      go_at_call 31
      (with_reducible refine (rdnum gr m1 w _ HR1.out).mono ?_)
      rintro e W3 ⟨hk, ⟨b, m2, h1, _, rfl, hr⟩ | ⟨ee, h1, h0, rfl, hr⟩⟩
      rotate_left
      · go_wp2
        obtain ⟨rfl, rfl⟩ := un_err H.out (HF.out.symm.trans (evs_err (ee := ee) hlt (by simp only [evP, Ha.out, h1])))
        exact unlog_thrown r2 h0 (HU1.out.keep HR1.out hk) hr rfl rfl (fun w' hb => ⟨_, rfl, Kd.S_nil _ _ _ _ _, hb⟩)
      have HU2 := Aside0.mk (HU1.out.keep HR1.out hk)
      have HX2 := Aside0.mk (hk.blk HX1.out x3 (by simp))
      have HR2 := Aside0.mk hr
      have Hb := Aside0.mk h1
      clear hr h1 hk HU1 HX1 HR1
      go_wp2_with (fail)
      go_at_call 31
      (with_reducible refine (rdnum gr m2 w _ HR2.out).mono ?_)
      rintro e W4 ⟨hk, ⟨c, m3, h1, _, rfl, hr⟩ | ⟨ee, h1, h0, rfl, hr⟩⟩
      rotate_left
      · go_wp2
        obtain ⟨rfl, rfl⟩ := un_err H.out (HF.out.symm.trans (evs_err (ee := ee) hlt (by simp only [evP, Ha.out, Hb.out, h1])))
        exact unlog_thrown r2 h0 (HU2.out.keep HR2.out hk) hr rfl rfl (fun w' hb => ⟨_, rfl, Kd.S_nil _ _ _ _ _, hb⟩)
      have HU3 := Aside0.mk (HU2.out.keep HR2.out hk)
      have HX3 := Aside0.mk (hk.blk HX2.out x3 (by simp))
      have HR3 := Aside0.mk hr
      have Hc := Aside0.mk h1
      clear hr h1 hk HU2 HX2 HR2
      go_wp2_with (fail)
      go_at_call 31
      (with_reducible refine (rdnum gr m3 w _ HR3.out).mono ?_)
      rintro e W5 ⟨hk, ⟨d, m4, h1, _, rfl, hr⟩ | ⟨ee, h1, h0, rfl, hr⟩⟩
      rotate_left
      · go_wp2
        obtain ⟨rfl, rfl⟩ := un_err H.out (HF.out.symm.trans (evs_err (ee := ee) hlt (by simp only [evP, Ha.out, Hb.out, Hc.out, h1])))
        exact unlog_thrown r2 h0 (HU3.out.keep HR3.out hk) hr rfl rfl (fun w' hb => ⟨_, rfl, Kd.S_nil _ _ _ _ _, hb⟩)
      have HU4 := Aside0.mk (HU3.out.keep HR3.out hk)
      have HX4 := Aside0.mk (hk.blk HX3.out x3 (by simp))
      have HR4 := Aside0.mk hr
      have Hd := Aside0.mk h1
      clear hr h1 hk HU3 HX3 HR3
      have hc0 : W5.cell? ⟨gx, 0, none⟩ = some (.int .i64 0) := (blk_cell HX4.out 0).trans rfl
      have hf0 := blk_frozen HX4.out 0
      have hc1 : W5.cell? ⟨gx, 1, none⟩ = some (.int .i64 0) := (blk_cell HX4.out 1).trans rfl
      have hf1 := blk_frozen HX4.out 1
      have hc2 : W5.cell? ⟨gx, 2, none⟩ = some (.int .i64 0) := (blk_cell HX4.out 2).trans rfl
      have hf2 := blk_frozen HX4.out 2
      have hc3 : W5.cell? ⟨gx, 3, none⟩ = some (.int .i64 0) := (blk_cell HX4.out 3).trans rfl
      have hf3 := blk_frozen HX4.out 3
      go_upto_region 7 with (fail)
      have hx : ((((W5.setCell ⟨gx, 0, none⟩ (.int .i64 a)).setCell ⟨gx, 1, none⟩ (.int .i64 b)).setCell ⟨gx, 2, none⟩ (.int .i64 c)).setCell ⟨gx, 3, none⟩ (.int .i64 d)).heap[gx]? = some (.cells #[.int .i64 a, .int .i64 b, .int .i64 c, .int .i64 d, .int .u64 0, .int .i64 0, .slice none 0 0] 56 (0, 0)) := (blk_set (blk_set (blk_set (blk_set HX4.out 0 (.int .i64 a)) 1 (.int .i64 b)) 2 (.int .i64 c)) 3 (.int .i64 d))
      have hU := ((((HU4.out.far x1 x2 (fun k hk => by first | exact Nat.ne_of_lt hk | exact Nat.ne_of_lt hk.1) 0 (.int .i64 a)).far x1 x2 (fun k hk => by first | exact Nat.ne_of_lt hk | exact Nat.ne_of_lt hk.1) 1 (.int .i64 b)).far x1 x2 (fun k hk => by first | exact Nat.ne_of_lt hk | exact Nat.ne_of_lt hk.1) 2 (.int .i64 c)).far x1 x2 (fun k hk => by first | exact Nat.ne_of_lt hk | exact Nat.ne_of_lt hk.1) 3 (.int .i64 d))
      have hR := ((((HR4.out.other x3 X4.out 0 (.int .i64 a)).other x3 X4.out 1 (.int .i64 b)).other x3 X4.out 2 (.int .i64 c)).other x3 X4.out 3 (.int .i64 d))
      generalize ((((W5.setCell ⟨gx, 0, none⟩ (.int .i64 a)).setCell ⟨gx, 1, none⟩ (.int .i64 b)).setCell ⟨gx, 2, none⟩ (.int .i64 c)).setCell ⟨gx, 3, none⟩ (.int .i64 d)) = W6 at *
      have HU5 := Aside0.mk hU
      have HR5 := Aside0.mk hR
      have HX5 := Aside0.mk hx
      clear hU hR hx HU4 HR4 HX4 hc0 hf0 hc1 hf1 hc2 hf2 hc3 hf3
      go_wp2_with (fail)
      go_at_call 32
      (with_reducible refine (rdword gr m4 w _ HR5.out).mono ?_)
      rintro e W7 ⟨hk, ⟨p, m5, h1, hx, rfl, hr⟩ | ⟨ee, h1, h0, rfl, hr⟩⟩
      rotate_left
      · go_wp2
        obtain ⟨rfl, rfl⟩ := un_err H.out (HF.out.symm.trans (evs_err (ee := ee) hlt (by simp only [evP, Ha.out, Hb.out, Hc.out, Hd.out, h1])))
        exact unlog_thrown r2 h0 (HU5.out.keep HR5.out hk) hr rfl rfl (fun w' hb => ⟨_, rfl, Kd.S_nil _ _ _ _ _, hb⟩)
      have HU6 := Aside0.mk (HU5.out.keep HR5.out hk)
      have HX6 := Aside0.mk (hk.blk HX5.out x3 (by simp))
      have HR6 := Aside0.mk hr
      have Hp := Aside0.mk h1
      clear hr h1 hk HU5 HX5 HR5
      have hc4 : W7.cell? ⟨gx, 4, none⟩ = some (.int .u64 0) := (blk_cell HX6.out 4).trans rfl
      have hf4 := blk_frozen HX6.out 4
      go_upto_region 8 with (fail)
      have hx : (W7.setCell ⟨gx, 4, none⟩ (.int .u64 (p : Int))).heap[gx]? = some (.cells #[.int .i64 a, .int .i64 b, .int .i64 c, .int .i64 d, .int .u64 (p : Int), .int .i64 0, .slice none 0 0] 56 (0, 0)) := (blk_set HX6.out 4 (.int .u64 (p : Int)))
      have hU := (HU6.out.far x1 x2 (fun k hk => by first | exact Nat.ne_of_lt hk | exact Nat.ne_of_lt hk.1) 4 (.int .u64 (p : Int)))
      have hR := (HR6.out.other x3 X4.out 4 (.int .u64 (p : Int)))
      generalize (W7.setCell ⟨gx, 4, none⟩ (.int .u64 (p : Int))) = W8 at *
      have HU7 := Aside0.mk hU
      have HR7 := Aside0.mk hR
      have HX7 := Aside0.mk hx
      clear hU hR hx HU6 HR6 HX6 hc4 hf4
      go_wp2_with (fail)
      go_at_call 31
      (with_reducible refine (rdnum gr m5 w _ HR7.out).mono ?_)
      rintro e W9 ⟨hk, ⟨q, m6, h1, _, rfl, hr⟩ | ⟨ee, h1, h0, rfl, hr⟩⟩
      rotate_left
      · go_wp2
        obtain ⟨rfl, rfl⟩ := un_err H.out (HF.out.symm.trans (evs_err (ee := ee) hlt (by simp only [evP, Ha.out, Hb.out, Hc.out, Hd.out, Hp.out, h1])))
        exact unlog_thrown r2 h0 (HU7.out.keep HR7.out hk) hr rfl rfl (fun w' hb => ⟨_, rfl, Kd.S_nil _ _ _ _ _, hb⟩)
      have HU8 := Aside0.mk (HU7.out.keep HR7.out hk)
      have HX8 := Aside0.mk (hk.blk HX7.out x3 (by simp))
      have HR8 := Aside0.mk hr
      have Hq := Aside0.mk h1
      clear hr h1 hk HU7 HX7 HR7
      have hc5 : W9.cell? ⟨gx, 5, none⟩ = some (.int .i64 0) := (blk_cell HX8.out 5).trans rfl
      have hf5 := blk_frozen HX8.out 5
      go_upto_region 9 with (fail)
      have hx : (W9.setCell ⟨gx, 5, none⟩ (.int .i64 q)).heap[gx]? = some (.cells #[.int .i64 a, .int .i64 b, .int .i64 c, .int .i64 d, .int .u64 (p : Int), .int .i64 q, .slice none 0 0] 56 (0, 0)) := (blk_set HX8.out 5 (.int .i64 q))
      have hU := (HU8.out.far x1 x2 (fun k hk => by first | exact Nat.ne_of_lt hk | exact Nat.ne_of_lt hk.1) 5 (.int .i64 q))
      have hR := (HR8.out.other x3 X4.out 5 (.int .i64 q))
      generalize (W9.setCell ⟨gx, 5, none⟩ (.int .i64 q)) = W10 at *
      have HU9 := Aside0.mk hU
      have HR9 := Aside0.mk hR
      have HX9 := Aside0.mk hx
      clear hU hR hx HU8 HR8 HX8 hc5 hf5
      go_wp2_with (fail)
      go_at_call 34
      have HV9 := Aside0.mk (HU9.out.bound)
      have hlt9 := blk_sz HX9.out
      obtain ⟨b9, hb9⟩ : ∃ b9, b9 = W10.heap.size := ⟨_, rfl⟩
      (with_reducible refine (rdlist gr m6 w _ HR9.out).mono ?_)
      rintro e W11 ⟨hk, ⟨z, m7, h1, ⟨vz, rfl, hvz⟩, hr⟩ | ⟨ee, h1, h0, rfl, hr⟩⟩
      rotate_left
      · go_wp2
        obtain ⟨rfl, rfl⟩ := un_err H.out (HF.out.symm.trans (evs_err (ee := ee) hlt (by simp only [evP, Ha.out, Hb.out, Hc.out, Hd.out, Hp.out, Hq.out, h1])))
        exact unlog_thrown r2 h0 (HU9.out.keep HR9.out hk) hr rfl rfl (fun w' hb => ⟨_, rfl, Kd.S_nil _ _ _ _ _, hb⟩)
      have HU10 := Aside0.mk (HV9.out.keep HR9.out hk)
      have HX10 := Aside0.mk (hk.blk HX9.out x3 (by simp))
      have HR10 := Aside0.mk hr
      have Hz := Aside0.mk h1
      obtain ⟨Az, cz, rfl⟩ := Kd.R_slice hvz
      rw [← hb9] at hvz hlt9
      have HVZ := Aside0.mk hvz
      clear hr h1 hk HU9 HX9 HR9 hvz
      have hc6 : W11.cell? ⟨gx, 6, none⟩ = some (.slice none 0 0) := (blk_cell HX10.out 6).trans rfl
      have hf6 := blk_frozen HX10.out 6
      go_upto_region 10 with (fail)
      have hx : (W11.setCell ⟨gx, 6, none⟩ (.slice Az z.length cz)).heap[gx]? = some (.cells #[.int .i64 a, .int .i64 b, .int .i64 c, .int .i64 d, .int .u64 (p : Int), .int .i64 q, .slice Az z.length cz] 56 (0, 0)) := (blk_set HX10.out 6 (.slice Az z.length cz))
      have hU := (HU10.out.far x1 x2 (fun k hk => by first | exact Nat.ne_of_lt hk | exact Nat.ne_of_lt hk.1) 6 (.slice Az z.length cz))
      have hR := (HR10.out.other x3 X4.out 6 (.slice Az z.length cz))
      have hvz := Kd.R_far (Kd.R_bound HVZ.out) (p := ⟨gx, 6, none⟩) (fun k hk => by have := hk.2.1; show k ≠ gx; omega) (.slice Az z.length cz)
      clear HVZ
      generalize (W11.setCell ⟨gx, 6, none⟩ (.slice Az z.length cz)) = W12 at *
      have HVZ := Aside0.mk hvz
      clear hvz
      have HU11 := Aside0.mk hU
      have HR11 := Aside0.mk hR
      have HX11 := Aside0.mk hx
      clear hU hR hx HU10 HR10 HX10 hc6 hf6
      have hc0 : W12.cell? ⟨gx, 0, none⟩ = some (.int .i64 a) := (blk_cell HX11.out 0).trans rfl
      have hc1 : W12.cell? ⟨gx, 1, none⟩ = some (.int .i64 b) := (blk_cell HX11.out 1).trans rfl
      have hc2 : W12.cell? ⟨gx, 2, none⟩ = some (.int .i64 c) := (blk_cell HX11.out 2).trans rfl
      have hc3 : W12.cell? ⟨gx, 3, none⟩ = some (.int .i64 d) := (blk_cell HX11.out 3).trans rfl
      have hc4 : W12.cell? ⟨gx, 4, none⟩ = some (.int .u64 (p : Int)) := (blk_cell HX11.out 4).trans rfl
      have hc5 : W12.cell? ⟨gx, 5, none⟩ = some (.int .i64 q) := (blk_cell HX11.out 5).trans rfl
      have hc6 : W12.cell? ⟨gx, 6, none⟩ = some (.slice Az z.length cz) := (blk_cell HX11.out 6).trans rfl
      have hcl : W12.cell? ⟨gl, 0, none⟩ = some v := (blk_cell HU11.out.bl 0).trans rfl
      have hlen := HL.out
      have hll : (acc ++ [(⟨a, b, c, d, (p : Int), q, z⟩ : S56)]).length = i + 1 := by rw [List.length_append, hlen]; rfl
      have hsz := HU11.out.g1
      have hsz2 := blk_sz HU11.out.bl
      have hown : ∀ k, v.ownBlock = some k → k < gx := fun k hk => ((Kd.S_R HU11.out.S).1 k hk).1
      have hx4 := X4.out
      have hgxs := blk_sz HX11.out
      have hbw := HR11.out.below
      have hM : k56.M W12 w.heap.size (fun k => b9 ≤ k) ⟨a, b, c, d, (p : Int), q, z⟩ [.int .i64 a, .int .i64 b, .int .i64 c, .int .i64 d, .int .u64 (p : Int), .int .i64 q, .slice Az z.length cz] := k56_mkM W12 w.heap.size _ ⟨a, b, c, d, (p : Int), q, z⟩ (Kd.R_lower (Kd.R_mono (Kd.R_bound HVZ.out) (fun k hk => hk.2.1)) (by omega))
      have HM := Aside0.mk hM
      clear hM HVZ
      have HUa := Aside0.mk (HU11.out.mono (ok' := fun k => k < gx ∧ k < b9) (fun k hk => ⟨hk.1, by have h2 := hk.2; omega⟩))
      go_wp2_with (first | ((with_reducible refine gate_builtin (b := .append) (xs := #[.tmp 35, .tmp 37]) rfl ?_); at_builtin; refine Kd.S_append k56 (w0 := w) w.heap.size rfl (.tmp 35) (.tmp 37) 29 56 (.agg #[.int .i64 0, .int .i64 0, .int .i64 0, .int .i64 0, .int .u64 0, .int .i64 0, .slice none 0 0]) 72 rfl Try.underlying29 (by kernel_rfl) rfl (by decide) (by decide) v acc ⟨a, b, c, d, (p : Int), q, z⟩ _ (fun _ => True) (fun k => b9 ≤ k) rfl rfl HM.out (fun k hk => ⟨trivial, fun he => by have h1 := hown k he.symm; have h2 := hk; omega⟩) (fun _ _ => trivial) (Kd.S_mono HUa.out.S (fun k hk => ⟨trivial, by have := hk.2; omega⟩)) hbw (by omega) (by omega) ?_; intro v1 w1 hS1 hb1 hg1 hat1; obtain ⟨A1, c1, rfl⟩ := Kd.R_slice (Kd.S_R hS1); have hU9 := HUa.out.push hg1 hS1; have hR9 := HUa.out.rd (v1 := .slice A1 (acc ++ [(⟨a, b, c, d, (p : Int), q, z⟩ : S56)]).length c1) HR11.out hg1; rw [hll] at hU9 hR9; have hcl1 : w1.cell? ⟨gl, 0, none⟩ = some v := (blk_cell ((hg1.block _ (blk_sz HUa.out.bl) (Kd.R_ne (Kd.S_R HUa.out.S) HUa.out.bl (by decide))).trans HUa.out.bl) 0).trans rfl; have hfl1 := blk_frozen ((hg1.block _ (blk_sz HUa.out.bl) (Kd.R_ne (Kd.S_R HUa.out.S) HUa.out.bl (by decide))).trans HUa.out.bl) 0))
      go_roundg g
      case measure => omega
      case rel => exact ⟨i + 1, _, acc ++ [(⟨a, b, c, d, (p : Int), q, z⟩ : S56)], m7, by omega, by omega, by first | rfl | rw [wrap_succ i (by omega)], ⟨hll⟩, ⟨hU9⟩, ⟨hR9⟩, ⟨(evs_next hlt (by simp only [evP, Ha.out, Hb.out, Hc.out, Hd.out, Hp.out, Hq.out, Hz.out])).symm.trans HF.out⟩⟩
    · have c1b : decide ((i : Int) < (n : Int)) = false := decide_eq_false (by omega)
      obtain rfl : i = n := by omega
      go_wp2_with (fail)
      go_at_call 35
      (with_reducible refine (rdend gr l' w _ HR.out).mono ?_)
      rintro e w2 ⟨rfl, ⟨hl, rfl⟩ | ⟨hl, rfl⟩⟩
      · have hcl : w2.cell? ⟨gl, 0, none⟩ = some v := (blk_cell HU.out.bl 0).trans rfl
        have hfl := blk_frozen HU.out.bl 0
        have hn1 := HU.out.n1
        have hce : w2.cell? ⟨ge, 0, none⟩ = some (.int .i64 0) := (blk_cell HU.out.be 0).trans rfl
        have hfe := blk_frozen HU.out.be 0
        obtain ⟨Av, cv, rfl⟩ := Kd.R_slice (Kd.S_R HU.out.S)
        have HE : r1 = acc ∧ r2 = 0 := un_ok H.out (HF.out.symm.trans (show finP acc (evsP (i - i) l') = .ok acc by rw [Nat.sub_self, hl]; simp [evsP, finP]))
        obtain ⟨rfl, rfl⟩ := HE
        go_wp2
        exact unlog_left HU.out HR.out rfl rfl (fun w' hS hb => ⟨_, rfl, hS, hb⟩)
      · go_wp2
        obtain ⟨rfl, rfl⟩ := un_err H.out (HF.out.symm.trans (show finP acc (evsP (i - i) l') = .error 20 by rw [Nat.sub_self]; cases l' with | nil => exact absurd rfl hl | cons c r => rfl))
        exact unlog_thrown 20 (by decide) HU.out HR.out rfl rfl (fun w' hb => ⟨_, rfl, Kd.S_nil _ _ _ _ _, hb⟩)

end Go.Proofs.Ytoobhpgkecplmaa.QPackReads
