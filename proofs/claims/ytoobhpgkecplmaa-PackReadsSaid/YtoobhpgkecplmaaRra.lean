/- Lemmas: what functions of package pack compute, by hand. No conditions but those that the theorems name. -/
import Derived.Test.YtoobhpgkecplmaaBckR
import Derived.Test.YtoobhpgkecplmaaQPackReadsx5
import Derived.WalkSmall
namespace Go.Proofs.Ytoobhpgkecplmaa.QPackReads
open Go Go.RowKit Go.Proofs.YtoobhpgkecplmaaW.PrintWords Go.Proofs.YtoobhpgkecplmaaW.PrintLast Go.Proofs.YtoobhpgkecplmaaW.PrintMore
attribute [local go_sem] max2_int min2_int max_two min_two max_three min_three max_four min_four
set_option linter.unusedVariables false
set_option linter.unusedSimpArgs false

/-! the reference's word -/
def val : List Int → Nat
  | [] => 0
  | c :: r => (c % 128).toNat + 128 * val r
theorem val_enc (y : Nat) : val (enc y) = y := by
  induction y using enc_ind with
  | h0 x h => rw [enc_small h]; simp only [val]; omega
  | h1 x h ih => rw [enc_big h]; simp only [val]; rw [ih]; omega
theorem enc_high (y : Nat) : ∀ j : Nat, j + 1 < (enc y).length → 127 < rd (enc y) j := by
  induction y using enc_ind with
  | h0 x h => intro j hj; rw [enc_small h] at hj; simp at hj
  | h1 x h ih =>
    intro j hj
    rw [enc_big h] at hj ⊢
    rcases j with _ | j
    · simp [rd]; omega
    · have := ih j (by simpa using hj)
      simpa [rd] using this
theorem enc_low (y : Nat) : ∀ j : Nat, j + 1 = (enc y).length → rd (enc y) j ≤ 127 := by
  induction y using enc_ind with
  | h0 x h => intro j hj; rw [enc_small h] at hj ⊢; simp at hj; subst hj; simp [rd]; omega
  | h1 x h ih =>
    intro j hj
    rw [enc_big h] at hj ⊢
    have hp := enc_pos (x / 128)
    rcases j with _ | j
    · simp only [List.length_cons] at hj; omega
    · have := ih j (by simpa using hj)
      simpa [rd] using this
theorem rd_app (a r : List Int) (j : Nat) (h : j < a.length) : rd (a ++ r) j = rd a j := by
  rw [rd_get _ j (by simp; omega), rd_get a j h, List.getElem_append_left h]

theorem refput_loop (x : Nat) : ∀ (k : Nat) (acc : List Int), x < 18446744073709551616 → (enc x).length ≤ k → acc.length + (enc x).length ≤ 140737488355328 → sakiaref07_Put.l0 k x acc = some (acc ++ enc x) := by
  induction x using enc_ind with
  | h0 x h =>
    intro k acc hx hk hl
    have hp := enc_pos x
    obtain ⟨k, rfl⟩ : ∃ m, k = m + 1 := ⟨k - 1, by omega⟩
    simp only [sakiaref07_Put.l0]
    rw [if_neg (by omega), if_pos (by omega), enc_small h, show (x : Int) % 256 = x by omega]
  | h1 x h ih =>
    intro k acc hx hk hl
    have hp := enc_pos x
    obtain ⟨k, rfl⟩ : ∃ m, k = m + 1 := ⟨k - 1, by omega⟩
    rw [enc_big h] at hk hl
    simp only [List.length_cons] at hk hl
    simp only [sakiaref07_Put.l0]
    rw [if_pos (by omega), if_pos (by omega), Int.tdiv_eq_ediv_of_nonneg (by omega), Int.tmod_eq_emod_of_nonneg (by omega), w_u64, w_u64]
    rw [show (x : Int) / 128 % 18446744073709551616 = ((x / 128 : Nat) : Int) by omega, show (128 + (x : Int) % 128) % 18446744073709551616 % 256 = ((128 + x % 128 : Nat) : Int) by omega]
    rw [ih k _ (by omega) (by omega) (by simp; omega), enc_big h]
    simp
theorem refput_yes (x : Nat) (hx : x < 18446744073709551616) (k : Nat) (hk : 10 ≤ k) : sakiaref07_Put.f k x = some (enc x) := by
  have hl := enc_len10 hx
  unfold sakiaref07_Put.f
  exact refput_loop x k [] hx (by omega) (by simp; omega)

theorem ref_l0 (b : List Int) (d : Nat) : ∀ (k i : Nat), i + d = 10 → d + 1 < k → i ≤ b.length → (∀ j : Nat, j < i → 127 < rd b j) →
    ∃ (m k' : Nat), i ≤ m ∧ m ≤ 10 ∧ m ≤ b.length ∧ (∀ j : Nat, j < m → 127 < rd b j) ∧ (m = b.length ∨ m = 10 ∨ m < b.length ∧ rd b m ≤ 127) ∧ k ≤ k' + d + 1 ∧ sakiaref07_Get.l0 k b i = sakiaref07_Get.j1 k' b m := by
  induction d with
  | zero =>
    intro k i hd hk hi hall
    obtain ⟨k, rfl⟩ : ∃ m, k = m + 1 := ⟨k - 1, by omega⟩
    refine ⟨i, k, Nat.le_refl _, by omega, hi, hall, by omega, by omega, ?_⟩
    simp only [sakiaref07_Get.l0]
    by_cases h : (i : Int) < b.length
    · rw [if_pos h, if_neg (by omega)]
    · rw [if_neg h]
  | succ d ih =>
    intro k i hd hk hi hall
    obtain ⟨k, rfl⟩ : ∃ m, k = m + 1 := ⟨k - 1, by omega⟩
    by_cases h : (i : Int) < b.length
    · by_cases h1 : rd b i > 127
      · obtain ⟨m, k', a1, a2, a3, a4, a5, a6, a7⟩ := ih k (i + 1) (by omega) (by omega) (by omega) (by
          intro j hj
          by_cases e : j = i
          · subst e; exact h1
          · exact hall j (by omega))
        refine ⟨m, k', by omega, a2, a3, a4, a5, by omega, ?_⟩
        simp only [sakiaref07_Get.l0]
        rw [if_pos h, if_pos (by omega), if_pos (by omega), if_pos h1, wrap_succ i (by omega), a7]
      · refine ⟨i, k, Nat.le_refl _, by omega, hi, hall, .inr (.inr ⟨by omega, by omega⟩), by omega, ?_⟩
        simp only [sakiaref07_Get.l0]
        rw [if_pos h, if_pos (by omega), if_pos (by omega), if_neg h1]
    · refine ⟨i, k, Nat.le_refl _, by omega, hi, hall, .inl (by omega), by omega, ?_⟩
      simp only [sakiaref07_Get.l0]
      rw [if_neg h]

theorem ref_l1 (b : List Int) (hb : ∀ c ∈ b, 0 ≤ c ∧ c ≤ 255) (m : Nat) (hm : m < b.length) (hl : b.length ≤ 2000000) (j : Nat) : ∀ k : Nat, j ≤ m + 1 → j < k →
    sakiaref07_Get.l1 k b m ((val ((b.take (m + 1)).drop j) % 18446744073709551616 : Nat) : Int) ((j : Int) - 1) = sakiaref07_Get.l1 (k - j) b m ((val (b.take (m + 1)) % 18446744073709551616 : Nat) : Int) (-1) := by
  induction j with
  | zero => intro k _ _; simp
  | succ j ih =>
    intro k hj hk
    obtain ⟨k, rfl⟩ : ∃ m, k = m + 1 := ⟨k - 1, by omega⟩
    have hbj := hb _ (rd_mem b j (by omega))
    have hlen : (b.take (m + 1)).length = m + 1 := by rw [List.length_take]; omega
    have hd := rd_drop (b.take (m + 1)) j (by omega)
    have hr : rd (b.take (m + 1)) j = rd b j := by rw [rd_get _ j (by omega), rd_get b j (by omega), List.getElem_take]
    simp only [sakiaref07_Get.l1]
    rw [show ((j + 1 : Nat) : Int) - 1 = (j : Int) by omega, if_pos (by omega), if_pos (by omega), if_pos (by omega), show wrap64 ((j : Int) - 1) = (j : Int) - 1 by unfold wrap64; omega]
    rw [Int.tmod_eq_emod_of_nonneg hbj.1, w_u64, w_u64, w_u64]
    have e : (128 * ((val ((b.take (m + 1)).drop (j + 1)) % 18446744073709551616 : Nat) : Int) % 18446744073709551616 + rd b j % 128 % 18446744073709551616) % 18446744073709551616 = ((val ((b.take (m + 1)).drop j) % 18446744073709551616 : Nat) : Int) := by
      rw [hd, hr]
      simp only [val]
      omega
    rw [e, ih k (by omega) (by omega), show k + 1 - (j + 1) = k - j by omega]

theorem ref_l2 (b w : List Int) (m : Nat) (X : Int) (hm : m < b.length) (hw : w.length = m + 1) (hl : b.length ≤ 2000000) (d : Nat) : ∀ (k i : Nat), i + d = m + 1 → d < k →
    sakiaref07_Get.l2 k b m X w i = some (if w.drop i = (b.take (m + 1)).drop i then (X, ((m + 1 : Nat) : Int), 0) else (0, 0, 20)) := by
  have hlen : (b.take (m + 1)).length = m + 1 := by rw [List.length_take]; omega
  induction d with
  | zero =>
    intro k i hi hk
    obtain ⟨k, rfl⟩ : ∃ m, k = m + 1 := ⟨k - 1, by omega⟩
    simp only [sakiaref07_Get.l2]
    rw [if_neg (by omega), List.drop_of_length_le (by omega), List.drop_of_length_le (by omega), if_pos rfl, wrap_succ m (by omega)]
  | succ d ih =>
    intro k i hi hk
    obtain ⟨k, rfl⟩ : ∃ m, k = m + 1 := ⟨k - 1, by omega⟩
    have hd := rd_drop (b.take (m + 1)) i (by omega)
    have hr : rd (b.take (m + 1)) i = rd b i := by rw [rd_get _ i (by omega), rd_get b i (by omega), List.getElem_take]
    simp only [sakiaref07_Get.l2]
    rw [if_pos (by omega), if_pos (by omega), if_pos (by omega), if_pos (by omega), hd, hr, rd_drop w i (by omega)]
    by_cases e : rd w i = rd b i
    · rw [if_pos e, wrap_succ i (by omega), ih k (i + 1) (by omega) (by omega), e]
      simp
    · rw [if_neg e, if_neg (fun h => e (List.cons.inj h).1)]

theorem first_low (b : List Int) (hb : ∀ c ∈ b, 0 ≤ c ∧ c ≤ 255) (m : Nat) (a2 : m ≤ 10) (a3 : m ≤ b.length) (a4 : ∀ j : Nat, j < m → 127 < rd b j) (a5 : m = b.length ∨ m = 10 ∨ m < b.length ∧ rd b m ≤ 127) (y n : Nat) (hd : dec 0 b = some (y, n)) :
    y < 18446744073709551616 ∧ b.take (m + 1) = enc y ∧ n = m + 1 ∧ m < b.length ∧ m < 10 := by
  obtain ⟨h1, ⟨r, h2⟩, h3, _⟩ := dec_sound b 0 y n (by omega) hb hd
  have hy := room_zero.1 h3
  have hp := enc_pos y
  have h10 := enc_len10 hy
  have hlb : (enc y).length ≤ b.length := by rw [h2]; simp
  have low : rd b ((enc y).length - 1 : Nat) ≤ 127 := by
    rw [h2, rd_app _ _ _ (by omega)]
    exact enc_low y _ (by omega)
  have ge : m ≤ (enc y).length - 1 := by
    by_cases hh : (enc y).length - 1 < m
    · have := a4 _ hh; omega
    · omega
  have em : (enc y).length = m + 1 := by
    rcases a5 with h | h | ⟨h, hle⟩
    · omega
    · omega
    · by_cases hh : m + 1 < (enc y).length
      · have := enc_high y m hh
        rw [h2, rd_app _ _ _ (by omega)] at hle
        omega
      · omega
  refine ⟨hy, ?_, by omega, by omega, by omega⟩
  rw [h2, ← em, List.take_append_of_le_length (Nat.le_refl _), List.take_length]
theorem ref_tail (b : List Int) (hb : ∀ c ∈ b, 0 ≤ c ∧ c ≤ 255) (hl : b.length ≤ 2000000) (m : Nat) (hm : m < b.length) (X : Nat) (hX : X < 18446744073709551616) (hXX : ∀ y, y < 18446744073709551616 → b.take (m + 1) = enc y → X = y)
    (key : ∀ y n, dec 0 b = some (y, n) → y < 18446744073709551616 ∧ b.take (m + 1) = enc y) (q : Nat) (hq : m + 20 < q) :
    (if ((enc X).length : Int) = ((m + 1 : Nat) : Int) then sakiaref07_Get.l2 q b m X (enc X) 0 else some (0, 0, 20)) = some (getP b) := by
  have hlen : (b.take (m + 1)).length = m + 1 := by rw [List.length_take]; omega
  by_cases hw : enc X = b.take (m + 1)
  · have hd : dec 0 b = some (X, (enc X).length) := by
      have := dec_enc X 0 (b.drop (m + 1)) (by omega) (room_zero.2 hX) (by omega)
      rwa [hw, List.take_append_drop, ← hw] at this
    rw [if_pos (by rw [hw, hlen])]
    refine (ref_l2 b (enc X) m X hm (by rw [hw, hlen]) hl (m + 1) q 0 (by omega) (by omega)).trans ?_
    rw [hw, if_pos rfl]
    unfold getP
    rw [hd, hw, hlen]
  · have hg : getP b = (0, 0, 20) := by
      apply getP_none
      intro y n hd
      obtain ⟨k1, k2⟩ := key y n hd
      exact hw (by rw [hXX y k1 k2, k2])
    by_cases hc : ((enc X).length : Int) = ((m + 1 : Nat) : Int)
    · rw [if_pos hc]
      refine (ref_l2 b (enc X) m X hm (by omega) hl (m + 1) q 0 (by omega) (by omega)).trans ?_
      rw [List.drop_zero, List.drop_zero, if_neg hw, hg]
    · rw [if_neg hc, hg]
theorem val_take (b : List Int) (m y : Nat) (h1 : y < 18446744073709551616) (h2 : b.take (m + 1) = enc y) : val (b.take (m + 1)) % 18446744073709551616 = y := by
  rw [h2, val_enc, Nat.mod_eq_of_lt h1]
theorem refget_yes (b : List Int) (hb : ∀ c ∈ b, 0 ≤ c ∧ c ≤ 255) (hl : b.length ≤ 2000000) (k : Nat) (hk : 100 ≤ k) : sakiaref07_Get.f k b = some (getP b) := by
  obtain ⟨m, k', _, a2, a3, a4, a5, a6, a7⟩ := ref_l0 b 10 k 0 (by omega) (by omega) (by omega) (by omega)
  have key := first_low b hb m a2 a3 a4 a5
  obtain ⟨k', rfl⟩ : ∃ q, k' = q + 2 := ⟨k' - 2, by omega⟩
  unfold sakiaref07_Get.f
  refine a7.trans ?_
  by_cases hmb : m < b.length ∧ m < 10
  · simp only [sakiaref07_Get.j1]
    rw [if_neg (by omega), decide_eq_false (by omega)]
    simp only [sakiaref07_Get.j2]
    rw [if_neg (by decide)]
    have s1 := ref_l1 b hb m hmb.1 hl (m + 1) k' (Nat.le_refl _) (by omega)
    have hlen : (b.take (m + 1)).length = m + 1 := by rw [List.length_take]; omega
    have hv : val ((b.take (m + 1)).drop (m + 1)) % 18446744073709551616 = 0 := by
      rw [List.drop_of_length_le (by omega)]
      exact Nat.zero_mod _
    rw [hv, show ((m + 1 : Nat) : Int) - 1 = (m : Int) by omega] at s1
    obtain ⟨q, hq⟩ : ∃ q, k' - (m + 1) = q + 1 := ⟨k' - (m + 1) - 1, by omega⟩
    have hX : val (b.take (m + 1)) % 18446744073709551616 < 18446744073709551616 := Nat.mod_lt _ (by decide)
    have hXX := val_take b m
    generalize val (b.take (m + 1)) % 18446744073709551616 = X at hX hXX s1
    refine Eq.trans s1 ?_
    rw [hq]
    simp only [sakiaref07_Get.l1]
    rw [if_neg (by omega), refput_yes X hX q (by omega), Option.bind_some, wrap_succ m (by omega)]
    exact ref_tail b hb hl m hmb.1 X hX hXX (fun y n hd => ⟨(key y n hd).1, (key y n hd).2.1⟩) q (by omega)
  · have hg : getP b = (0, 0, 20) := by
      apply getP_none
      intro y n hd
      obtain ⟨k1, k2, k3, k4, k5⟩ := key y n hd
      omega
    simp only [sakiaref07_Get.j1]
    by_cases h : (m : Int) ≥ b.length
    · rw [if_pos h]
      simp only [sakiaref07_Get.j2]
      rw [if_pos trivial, hg]
    · rw [if_neg h, decide_eq_true (by omega)]
      simp only [sakiaref07_Get.j2]
      rw [if_pos trivial, hg]
theorem refzag_yes (x : Nat) (h : x < 18446744073709551616) : sakiaref07_Zag.f x = some (zagI x) := by
  unfold sakiaref07_Zag.f
  exact zag_ref h
/-! The reference's reader R keeps its first error: what is left is l, the error is e. -/
structure Rs (w0 : World) (gr : Nat) (W : World) (l : List Int) (e : Int) : Prop where
  ok : ∀ c ∈ l, 0 ≤ c ∧ c ≤ 255
  len : l.length ≤ 2000000
  below : Below w0.heap.size w0 W
  base : w0.heap.size ≤ gr
  blk : ∃ A c, W.heap[gr]? = some (.cells #[.slice A l.length c, .int .i64 e] 78 (0, 0)) ∧ Kd.C (Kd.int .u8) w0 A l.length l ∧ l.length ≤ c
/-- one read of R: as the parser p, but for the error that it keeps -/
def Rel {α : Type} (p : List Int → Except Int (α × List Int)) (l : List Int) (e : Int) (x : α) (l' : List Int) (e' : Int) : Prop :=
  (e = 0 ∧ e' = 0 ∧ p l = .ok (x, l')) ∨ (e = 0 ∧ e' ≠ 0 ∧ p l = .error e') ∨ (e ≠ 0 ∧ e' = e)
theorem Rs.step {w0 W W' : World} {gr : Nat} {l : List Int} {e : Int} (h : Rs w0 gr W l e) (hb : Below W.heap.size W W') : Rs w0 gr W' l e := by
  obtain ⟨A, c, h1, h2, h3⟩ := h.blk
  exact ⟨h.ok, h.len, h.below.trans (hb.mono (by have := h.below.size; omega)), h.base, A, c, (hb.block _ (blk_sz h1)).trans h1, h2, h3⟩
theorem Rs.lt {w0 W : World} {gr : Nat} {l : List Int} {e : Int} (h : Rs w0 gr W l e) : gr < W.heap.size := by
  obtain ⟨A, c, h1, h2, h3⟩ := h.blk
  exact blk_sz h1
theorem Rs.err {w0 W : World} {gr : Nat} {l : List Int} {e : Int} (h : Rs w0 gr W l e) (e' : Int) : Rs w0 gr (W.setCell ⟨gr, 1, none⟩ (.int .i64 e')) l e' := by
  obtain ⟨A, c, h1, h2, h3⟩ := h.blk
  exact ⟨h.ok, h.len, h.below.setCell h.base _, h.base, A, c, blk_set h1 1 _, h2, h3⟩
theorem Rs.cut {w0 W : World} {gr : Nat} {l : List Int} {e : Int} (n : Nat) (h : Rs w0 gr W l e) {A' : Option Addr} {c' : Nat} (hC : Kd.C (Kd.int .u8) w0 A' (l.drop n).length (l.drop n)) (hc : (l.drop n).length ≤ c') : Rs w0 gr (W.setCell ⟨gr, 0, none⟩ (.slice A' (l.drop n).length c')) (l.drop n) e := by
  obtain ⟨A, c, h1, h2, h3⟩ := h.blk
  exact ⟨fun c hc => h.ok c (List.mem_of_mem_drop hc), Nat.le_trans (by rw [List.length_drop]; omega) h.len, h.below.setCell h.base _, h.base, A', c', blk_set h1 0 _, hC, hc⟩
theorem Rs.other {w0 W : World} {gr : Nat} {l : List Int} {e : Int} (h : Rs w0 gr W l e) {g : Nat} (hg : g ≠ gr) (hb : w0.heap.size ≤ g) (j : Nat) (u : Value) : Rs w0 gr (W.setCell ⟨g, j, none⟩ u) l e := by
  obtain ⟨A, c, h1, h2, h3⟩ := h.blk
  exact ⟨h.ok, h.len, h.below.setCell hb _, h.base, A, c, (Below.heap_setCell _ _ _ _ (fun e => hg e.symm)).trans h1, h2, h3⟩
theorem Rs.grown {w0 W W' : World} {gr : Nat} {l : List Int} {e : Int} (h : Rs w0 gr W l e) {row : Option Nat} (hg : W.grownBy W' row) (hr : ∀ k, row = some k → w0.heap.size ≤ k ∧ k ≠ gr) : Rs w0 gr W' l e := by
  obtain ⟨A, c, h1, h2, h3⟩ := h.blk
  exact ⟨h.ok, h.len, h.below.grown hg (by have := h.below.size; omega) (fun k hk => (hr k hk).1), h.base, A, c, (hg.block _ (blk_sz h1) (fun e => (hr gr e.symm).2 rfl)).trans h1, h2, h3⟩
theorem Rs.e1 {w0 W : World} {gr : Nat} {l : List Int} {e : Int} (h : Rs w0 gr W l e) : W.cell? ⟨gr, 1, none⟩ = some (.int .i64 e) ∧ W.frozen? ⟨gr, 1, none⟩ = false := by
  obtain ⟨A, c, h1, h2, h3⟩ := h.blk
  exact ⟨(blk_cell h1 1).trans rfl, blk_frozen h1 1⟩
set_option maxHeartbeats 8000000 in
set_option maxRecDepth 100000 in
theorem rrword (gr : Nat) (l : List Int) (e0 : Int) (w0 W : World) (hR : Rs w0 gr W l e0) :
    Calls Try.prog 37 #[.pointer (some ⟨gr, 0, none⟩)] W fun e w' => KeepBut W w' gr none ∧ ∃ (x : Nat) (l' : List Int) (e' : Int), e = .returned (.int .u64 (x : Int)) ∧ x < 18446744073709551616 ∧ Rs w0 gr w' l' e' ∧ Rel wordP l e0 x l' e' := by
  obtain ⟨A, c, hblk, hC, hc⟩ := hR.blk
  have hc0 : W.cell? ⟨gr, 0, none⟩ = some (.slice A l.length c) := (blk_cell hblk 0).trans rfl
  have hc1 : W.cell? ⟨gr, 1, none⟩ = some (.int .i64 e0) := (blk_cell hblk 1).trans rfl
  have hf0 := blk_frozen hblk 0
  have hf1 := blk_frozen hblk 1
  by_cases he : e0 = 0
  · subst he
    have hg := refget_yes l hR.ok hR.len 100 (Nat.le_refl _)
    obtain ⟨⟨x, n, ee⟩, hp⟩ : ∃ q, q = getP l := ⟨_, rfl⟩
    rw [← hp] at hg
    have hn : 0 ≤ n ∧ n ≤ l.length ∧ ∃ y : Nat, x = y ∧ y < 18446744073709551616 := by
      rcases getP_cases l hR.ok with h | ⟨y, hy, ⟨r, hr⟩, h⟩
      · rw [h] at hp; simp only [Prod.mk.injEq] at hp; exact ⟨by omega, by omega, 0, by omega, by decide⟩
      · rw [h] at hp; simp only [Prod.mk.injEq] at hp
        have : l.length = (enc y).length + r.length := by rw [hr, List.length_append]
        exact ⟨by omega, by omega, y, hp.1, hy⟩
    obtain ⟨hn0, hn1, y, rfl, hy⟩ := hn
    have hrel : Rel wordP l 0 y (l.drop n.toNat) ee := by
      by_cases he : ee = 0
      · refine .inl ⟨rfl, he, ?_⟩
        unfold wordP
        rw [← hp, if_pos he]
        rfl
      · refine .inr (.inl ⟨rfl, he, ?_⟩)
        unfold wordP
        rw [← hp, if_neg he]
    have HR := Aside0.mk hR
    have HG := Aside0.mk hg
    have HC := Aside0.mk (fun W' (hb : Below w0.heap.size w0 W') => Kd.C_below hC hb)
    have HC0 := Aside0.mk hc
    have HBK := Aside0.mk hblk
    have HRE := Aside0.mk hrel
    obtain ⟨i014, hi014, _, hsz14, _⟩ := info_parts info5
    obtain ⟨A', hcut, hA', hC'⟩ := print_drop_of (P := Try.prog) (Value.int .u8) 0 33 5 .i64 Try.underlying33 hi014 hsz14 A c l n hn0 hn1 HC0.out
    have HD := Aside0.mk (Kd.C_of_reads (h1 := fun _ => rfl) (hA' _ (Kd.reads_of_C hC)))
    have HC1 := Aside0.mk hC'
    clear hA' hC' hi014 hsz14 hC hR hg hp hblk hrel
    go_enter Try.func37, Try.ntmps37
    go_wp2_with (fail)
    go_at_call 52
    (with_reducible refine (sakiaref07_Get.calls 100 A c l (y : Int) n ee _ (HC.out _ HR.out.below) HC0.out HG.out).mono ?_)
    rintro e w2 ⟨rfl, hb2⟩
    have hblk2 := (hb2.block _ (blk_sz HBK.out)).trans HBK.out
    have hd0 : w2.cell? ⟨gr, 0, none⟩ = some (.slice A l.length c) := (blk_cell hblk2 0).trans rfl
    have hd1 : w2.cell? ⟨gr, 1, none⟩ = some (.int .i64 0) := (blk_cell hblk2 1).trans rfl
    have hg0 := blk_frozen hblk2 0
    have hg1 := blk_frozen hblk2 1
    have HB2 := Aside0.mk hb2
    clear hb2 hblk2 hc0 hc1 hf0 hf1
    go_wp2_with (fail)
    go_ret
    have hR2 := ((HR.out.step HB2.out).err ee).cut n.toNat HD.out HC1.out
    rw [List.length_drop] at hR2
    exact ⟨keep_tr (keep_tr (keep_step HB2.out) (keep_self 1 _)) (keep_self 0 _), y, l.drop n.toNat, ee, rfl, hy, hR2, HRE.out⟩
  · have HR := Aside0.mk hR
    clear hR hC
    go_enter Try.func37, Try.ntmps37
    go_wp2_with (fail)
    go_ret
    exact ⟨KeepBut.refl W gr none, 0, l, e0, rfl, by decide, HR.out, .inr (.inr ⟨he, rfl⟩)⟩
set_option maxHeartbeats 8000000 in
set_option maxRecDepth 100000 in
theorem rrnum (gr : Nat) (l : List Int) (e0 : Int) (w0 W : World) (hR : Rs w0 gr W l e0) :
    Calls Try.prog 36 #[.pointer (some ⟨gr, 0, none⟩)] W fun e w' => KeepBut W w' gr none ∧ ∃ (x : Int) (l' : List Int) (e' : Int), e = .returned (.int .i64 x) ∧ Rs w0 gr w' l' e' ∧ Rel numP l e0 x l' e' := by
  have HR := Aside0.mk hR
  clear hR
  go_enter Try.func36, Try.ntmps36
  go_wp2_with (fail)
  go_at_call 37
  (with_reducible refine (rrword gr l e0 w0 _ HR.out).mono ?_)
  rintro e w2 ⟨hk, x, l', e', rfl, hx, hr, hrel⟩
  have hrel2 : Rel numP l e0 (zagI x) l' e' := by
    rcases hrel with ⟨h1, h2, h3⟩ | ⟨h1, h2, h3⟩ | h1
    · exact .inl ⟨h1, h2, by unfold numP; rw [h3]⟩
    · exact .inr (.inl ⟨h1, h2, by unfold numP; rw [h3]⟩)
    · exact .inr (.inr h1)
  have HR2 := Aside0.mk hr
  have HK := Aside0.mk hk
  have HZ := Aside0.mk (refzag_yes x hx)
  have HE := Aside0.mk hrel2
  clear hr hk hrel hrel2
  go_wp2_with (fail)
  go_at_call 51
  (with_reducible refine (sakiaref07_Zag.calls (x : Int) (zagI x) _ HZ.out).mono ?_)
  rintro e w3 ⟨rfl, ⟨nd, rfl⟩⟩
  go_wp2_with (fail)
  go_ret
  exact ⟨keep_tr HK.out (keep_step (pw_below_drewN (Below.refl _ _) nd)), zagI x, l', e', rfl, HR2.out.step (pw_below_drewN (Below.refl _ _) nd), HE.out⟩
set_option maxHeartbeats 8000000 in
set_option maxRecDepth 100000 in
theorem rrmany (most : Nat) (hm : most < 9223372036854775808) (gr : Nat) (l : List Int) (e0 : Int) (w0 W : World) (hR : Rs w0 gr W l e0) :
    Calls Try.prog 38 #[.pointer (some ⟨gr, 0, none⟩), .int .u64 (most : Int)] W fun e w' => KeepBut W w' gr none ∧ ∃ (x : Nat) (l' : List Int) (e' : Int), e = .returned (.int .i64 (x : Int)) ∧ x ≤ most ∧ Rs w0 gr w' l' e' ∧ Rel (manyP most) l e0 x l' e' := by
  have HR := Aside0.mk hR
  clear hR
  go_enter Try.func38, Try.ntmps38
  go_wp2_with (fail)
  go_at_call 37
  (with_reducible refine (rrword gr l e0 w0 _ HR.out).mono ?_)
  rintro e w2 ⟨hk, x, l', e', rfl, hx, hr, hrel⟩
  have HR2 := Aside0.mk hr
  have HK := Aside0.mk hk
  have HE := Aside0.mk hrel
  obtain ⟨hc1, hf1⟩ := hr.e1
  clear hr hk hrel
  by_cases he : e' = 0
  · subst he
    have he0 : e0 = 0 ∧ wordP l = .ok (x, l') := by
      rcases HE.out with ⟨h1, h2, h3⟩ | ⟨h1, h2, h3⟩ | ⟨h1, h2⟩
      · exact ⟨h1, h3⟩
      · exact absurd rfl h2
      · exact absurd h2.symm h1
    obtain ⟨he0, hw⟩ := he0
    have HW := Aside0.mk hw
    clear hw
    by_cases hc : (x : Int) > (most : Int)
    · have hcb : decide ((x : Int) > (most : Int)) = true := decide_eq_true hc
      have hc2 : (w2.setCell ⟨gr, 1, none⟩ (.int .i64 21)).cell? ⟨gr, 1, none⟩ = some (.int .i64 21) := ((HR2.out.err 21).e1).1
      go_wp2_with (fail)
      go_ret
      exact ⟨keep_tr HK.out (keep_self 1 _), 0, l', 21, rfl, Nat.zero_le _, HR2.out.err 21, .inr (.inl ⟨he0, by decide, by unfold manyP; rw [HW.out]; exact if_pos (by omega)⟩)⟩
    · have hcb : decide ((x : Int) > (most : Int)) = false := decide_eq_false hc
      have hw : wrap64 (x : Int) = (x : Int) := by rw [wrap64]; omega
      go_wp2_with (fail)
      go_ret
      refine ⟨HK.out, x, l', 0, ?_, by omega, HR2.out, .inl ⟨he0, rfl, by unfold manyP; rw [HW.out]; exact if_neg (by omega)⟩⟩
      first | rfl | simp [hw]
  · have hrel2 : Rel (manyP most) l e0 0 l' e' := by
      rcases HE.out with ⟨h1, h2, h3⟩ | ⟨h1, h2, h3⟩ | h1
      · exact absurd h2 he
      · exact .inr (.inl ⟨h1, h2, by unfold manyP; rw [h3]⟩)
      · exact .inr (.inr h1)
    go_wp2_with (fail)
    go_ret
    exact ⟨HK.out, 0, l', e', rfl, Nat.zero_le _, HR2.out, hrel2⟩
set_option maxHeartbeats 8000000 in
set_option maxRecDepth 100000 in
theorem rrover (gr : Nat) (l : List Int) (e0 : Int) (w0 W : World) (hR : Rs w0 gr W l e0) :
    Calls Try.prog 40 #[.pointer (some ⟨gr, 0, none⟩)] W fun e w' => KeepBut W w' gr none ∧ ∃ (e' : Int), e = .returned (.int .i64 e') ∧ Rs w0 gr w' l e' ∧ ((e0 = 0 ∧ ((l = [] ∧ e' = 0) ∨ (l ≠ [] ∧ e' = 20))) ∨ (e0 ≠ 0 ∧ e' = e0)) := by
  obtain ⟨A, c, hblk, hC, hc⟩ := hR.blk
  have hc0 : W.cell? ⟨gr, 0, none⟩ = some (.slice A l.length c) := (blk_cell hblk 0).trans rfl
  have hc1 : W.cell? ⟨gr, 1, none⟩ = some (.int .i64 e0) := (blk_cell hblk 1).trans rfl
  have hf1 := blk_frozen hblk 1
  have HR := Aside0.mk hR
  clear hR hC hblk hc
  by_cases he : e0 = 0
  · subst he
    have HX := Aside0.mk (fun (e' : Int) (h : (l = [] ∧ e' = 0) ∨ (l ≠ [] ∧ e' = 20)) => (show ((0 : Int) = 0 ∧ ((l = [] ∧ e' = 0) ∨ (l ≠ [] ∧ e' = 20))) ∨ ((0 : Int) ≠ 0 ∧ e' = 0) from .inl ⟨rfl, h⟩))
    by_cases hl : (l.length : Int) > 0
    · have hcb : decide ((l.length : Int) > 0) = true := decide_eq_true hl
      have hne := Aside0.mk (show l ≠ [] by rintro rfl; simp at hl)
      have hc2 : (W.setCell ⟨gr, 1, none⟩ (.int .i64 20)).cell? ⟨gr, 1, none⟩ = some (.int .i64 20) := ((HR.out.err 20).e1).1
      go_enter Try.func40, Try.ntmps40
      go_wp2_with (fail)
      go_ret
      exact ⟨keep_self 1 _, 20, rfl, HR.out.err 20, .inr ⟨hne.out, rfl⟩⟩
    · have hcb : decide ((l.length : Int) > 0) = false := decide_eq_false hl
      have hne := Aside0.mk (show l = [] from List.eq_nil_of_length_eq_zero (by omega))
      go_enter Try.func40, Try.ntmps40
      go_wp2_with (fail)
      go_ret
      exact ⟨KeepBut.refl W gr none, 0, rfl, HR.out, .inl ⟨hne.out, rfl⟩⟩
  · go_enter Try.func40, Try.ntmps40
    go_wp2_with (fail)
    go_ret
    exact ⟨KeepBut.refl W gr none, e0, rfl, HR.out, .inr ⟨he, rfl⟩⟩
end Go.Proofs.Ytoobhpgkecplmaa.QPackReads
