/- Lemmas: what functions of package pack compute, by hand. No conditions but those that the theorems name. -/
import Derived.Test.YtoobhpgkecplmaaUnsR
import Derived.Test.YtoobhpgkecplmaaQPackReadsx5
import Derived.WalkSmall
namespace Go.Proofs.Ytoobhpgkecplmaa.QPackReads
open Go Go.RowKit Go.Proofs.YtoobhpgkecplmaaW.PrintWords Go.Proofs.YtoobhpgkecplmaaW.PrintLast Go.Proofs.YtoobhpgkecplmaaW.PrintMore
attribute [local go_sem] max2_int min2_int max_two min_two max_three min_three max_four min_four
set_option linter.unusedVariables false
set_option linter.unusedSimpArgs false
def actB (a : S54) : List Int := nums [a.f0, a.f1.f0, a.f1.f1] ++ lst a.f1.f2
def acts (l : List S54) : List Int := (l.map actB).flatten
def ups (l : List (List Int)) : List Int := (l.map lst).flatten
def actLong (l : List S54) : Bool := l.any fun a => decide ((a.f1.f2.length : Int) > 256)
def upLong (l : List (List Int)) : Bool := l.any fun a => decide ((a.length : Int) > 256)
def okL (l : List Int) : Bool := decide (l.length ≤ 1000) && l.all i64b
def okA (a : S54) : Bool := i64b a.f0 && i64b a.f1.f0 && i64b a.f1.f1 && okL a.f1.f2
def scrB (a0 a1 a2 a3 a4 : Int) (up : List (List Int)) (l : List S54) : List Int := nums [a0, a1, a2, a3] ++ enc a4.toNat ++ enc up.length ++ ups up ++ enc l.length ++ acts l
def scrLong (up : List (List Int)) (l : List S54) : Bool := ((decide ((up.length : Int) > 256) || upLong up) || decide ((l.length : Int) > 4096)) || actLong l
def pack_Script.f (a0 a1 a2 a3 a4 : Int) (up : List (List Int)) (l : List S54) : Option (List Int × Int) := if (i64b a0 && i64b a1 && i64b a2 && i64b a3 && decide (0 ≤ a4) && decide (a4 < 18446744073709551616)) = true then (if up.length ≤ 1000 ∧ l.length ≤ 1000 then (if (up.all okL && l.all okA) = true then (if scrLong up l = true then some ([], 21) else some (scrB a0 a1 a2 a3 a4 up l, 0)) else none) else none) else none
theorem okL_parts {l : List Int} (h : okL l = true) : l.length ≤ 1000 ∧ ints l := by
  simp only [okL, Bool.and_eq_true, decide_eq_true_eq, List.all_eq_true] at h
  exact ⟨h.1, fun n hn => (i64b_iff n).1 (h.2 n hn)⟩
theorem okA_parts {a : S54} (h : okA a = true) : ints [a.f0, a.f1.f0, a.f1.f1] ∧ a.f1.f2.length ≤ 1000 ∧ ints a.f1.f2 := by
  simp only [okA, Bool.and_eq_true] at h
  obtain ⟨⟨⟨h0, h1⟩, h2⟩, h3⟩ := h
  refine ⟨fun n hn => ?_, (okL_parts h3).1, (okL_parts h3).2⟩
  simp only [List.mem_cons, List.not_mem_nil, or_false] at hn
  rw [i64b_iff] at h0 h1 h2
  rcases hn with rfl | rfl | rfl <;> assumption
/-! What is read tells the bytes, and what is written is read as it was. -/
theorem nums_nil : nums [] = [] := rfl
def bytes (b : List Int) : Prop := ∀ c ∈ b, 0 ≤ c ∧ c ≤ 255
theorem bytes_tail {p r : List Int} (h : bytes (p ++ r)) : bytes r := fun c hc => h c (List.mem_append_right _ hc)
theorem readN_sound (b : List Int) (hb : ∀ c ∈ b, 0 ≤ c ∧ c ≤ 255) (c : Nat) : ∀ (a : Nat) (out l : List Int) (m : Int), a ≤ b.length → readN b c a out = (l, m, 0) →
    ∃ (l' : List Int) (a' : Nat), l = out ++ l' ∧ l'.length = c ∧ m = a' ∧ a ≤ a' ∧ a' ≤ b.length ∧ b.drop a = nums l' ++ b.drop a' ∧ ∀ n ∈ l', -9223372036854775808 ≤ n ∧ n ≤ 9223372036854775807 := by
  induction c with
  | zero =>
    intro a out l m ha h
    simp only [readN, Prod.mk.injEq] at h
    exact ⟨[], a, by simp [h.1], rfl, h.2.1.symm, Nat.le_refl _, ha, by simp [nums], by simp⟩
  | succ c ih =>
    intro a out l m ha h
    simp only [readN] at h
    by_cases he : (getP (b.drop a)).2.2 = 0
    · obtain ⟨y, hy, g1, g2, g3, ⟨r, g4⟩⟩ := getP_step _ (fun c hc => hb c (take_ge b a c hc)) he
      have hlen : (enc y).length ≤ b.length - a := by
        have := congrArg List.length g4
        simp at this
        omega
      rw [if_pos he, g1, g2] at h
      simp only [Int.toNat_natCast] at h
      obtain ⟨l', a', e1, e2, e3, e4, e5, e6, e7⟩ := ih _ _ _ _ (by omega) h
      refine ⟨zagI y :: l', a', by rw [e1]; simp, by simp [e2], e3, by omega, e5, ?_, ?_⟩
      · have hr : r = b.drop (a + (enc y).length) := by
          have := congrArg (List.drop (enc y).length) g4
          rw [List.drop_drop, List.drop_left] at this
          exact this.symm
        rw [g4, hr, e6]
        simp only [nums_cons]
        rw [zig_zag, List.append_assoc]
      · intro n hn
        rcases List.mem_cons.1 hn with rfl | hn
        · exact zag_range hy
        · exact e7 n hn
    · rw [if_neg he] at h
      simp only [Prod.mk.injEq] at h
      exact absurd h.2.2 he
theorem readL_sound (b : List Int) (hb : ∀ c ∈ b, 0 ≤ c ∧ c ≤ 255) (most : Int) (l : List Int) (m : Int) (h : readL b most = (l, m, 0)) :
    ∃ a' : Nat, m = a' ∧ 1 ≤ a' ∧ a' ≤ b.length ∧ (l.length : Int) ≤ most ∧ lst l = b.take a' ∧ ∀ n ∈ l, -9223372036854775808 ≤ n ∧ n ≤ 9223372036854775807 := by
  unfold readL at h
  by_cases he : (getP b).2.2 = 0
  · obtain ⟨y, hy, g1, g2, g3, ⟨r, g4⟩⟩ := getP_step _ hb he
    have hlen : (enc y).length ≤ b.length := by rw [g4]; simp
    rw [if_pos he, g1, g2] at h
    by_cases hc : most < 0 ∨ (y : Int) > most
    · rw [if_pos hc] at h
      simp only [Prod.mk.injEq] at h
      exact absurd h.2.2 (by decide)
    · rw [if_neg hc] at h
      simp only [Int.toNat_natCast] at h
      obtain ⟨l', a', e1, e2, e3, e4, e5, e6, e7⟩ := readN_sound b hb _ _ _ _ _ hlen h
      simp only [List.nil_append] at e1
      subst e1
      refine ⟨a', e3, by omega, e5, by omega, ?_, e7⟩
      unfold lst
      have hd : b.drop (enc y).length = r := by
        have := congrArg (List.drop (enc y).length) g4
        rw [List.drop_left] at this
        exact this
      rw [hd] at e6
      rw [e2]
      have hb2 : b = (enc y ++ nums l) ++ b.drop a' := by
        rw [List.append_assoc, ← e6]; exact g4
      have hl2 : (enc y ++ nums l).length = a' := by
        have := congrArg List.length hb2
        simp only [List.length_append, List.length_drop] at this ⊢
        omega
      have h9 : (enc y ++ nums l ++ b.drop a').take a' = enc y ++ nums l := by rw [← hl2, List.take_left]
      rw [← hb2] at h9
      exact h9.symm
  · rw [if_neg he] at h
    simp only [Prod.mk.injEq] at h
    exact absurd h.2.2 he
theorem getP_enc (x : Nat) (hx : x < 18446744073709551616) (r : List Int) : getP (enc x ++ r) = ((x : Int), ((enc x).length : Int), 0) := by
  unfold getP
  rw [dec_enc x 0 r (by omega) (room_zero.2 hx) (by omega)]
theorem readN_back (r : List Int) (l : List Int) (hl : ∀ n ∈ l, -9223372036854775808 ≤ n ∧ n ≤ 9223372036854775807) : ∀ (pre out : List Int), readN (pre ++ (nums l ++ r)) l.length pre.length out = (out ++ l, ((pre.length + (nums l).length : Nat) : Int), 0) := by
  induction l with
  | nil => intro pre out; simp [readN, nums]
  | cons n l ih =>
    intro pre out
    have hn := hl n (by simp)
    simp only [List.length_cons, readN, nums_cons]
    rw [List.append_assoc, List.drop_left, getP_enc _ (zig_lt hn.1 hn.2)]
    simp only [if_true, Int.toNat_natCast]
    rw [zag_zig]
    have := ih (fun m hm => hl m (by simp [hm])) (pre ++ enc (zigI n)) (out ++ [n])
    rw [List.length_append, List.append_assoc] at this
    rw [this]
    simp only [List.append_assoc, List.singleton_append, List.length_append, Prod.mk.injEq, true_and, and_true]
    omega
theorem readL_back (l r : List Int) (most : Int) (hm : (l.length : Int) ≤ most) (hn : l.length < 18446744073709551616) (hl : ∀ n ∈ l, -9223372036854775808 ≤ n ∧ n ≤ 9223372036854775807) : readL (lst l ++ r) most = (l, ((lst l).length : Int), 0) := by
  unfold readL lst
  rw [List.append_assoc, getP_enc _ hn, if_pos rfl, if_neg (by omega)]
  simp only [Int.toNat_natCast]
  rw [readN_back r l hl (enc l.length) []]
  simp

theorem wordP_sound {b r : List Int} {x : Nat} (hb : bytes b) (h : wordP b = .ok (x, r)) : b = enc x ++ r ∧ x < 18446744073709551616 := by
  unfold wordP at h
  split at h
  · rename_i he
    obtain ⟨y, hy, g1, g2, _, ⟨r', g4⟩⟩ := getP_step b hb he
    rw [g1, g2] at h
    simp only [Int.toNat_natCast, Except.ok.injEq, Prod.mk.injEq] at h
    obtain ⟨rfl, rfl⟩ := h
    refine ⟨?_, hy⟩
    have : b.drop (enc y).length = r' := by
      rw [g4, List.drop_left]
    rw [this]
    exact g4
  · cases h
theorem wordP_back {x : Nat} (hx : x < 18446744073709551616) (r : List Int) : wordP (enc x ++ r) = .ok (x, r) := by
  unfold wordP
  rw [getP_enc x hx r, if_pos rfl]
  simp
theorem numP_sound {b r : List Int} {n : Int} (hb : bytes b) (h : numP b = .ok (n, r)) : b = enc (zigI n) ++ r ∧ i64b n = true := by
  unfold numP at h
  split at h
  · rename_i x r' he
    obtain ⟨h1, h2⟩ := wordP_sound hb he
    simp only [Except.ok.injEq, Prod.mk.injEq] at h
    obtain ⟨rfl, rfl⟩ := h
    rw [zig_zag]
    exact ⟨h1, (i64b_iff _).2 (zag_range h2)⟩
  · cases h
theorem numP_back {n : Int} (hn : i64b n = true) (r : List Int) : numP (enc (zigI n) ++ r) = .ok (n, r) := by
  have h := (i64b_iff n).1 hn
  unfold numP
  rw [wordP_back (zig_lt h.1 h.2)]
  simp only [zag_zig]
theorem manyP_sound {b r : List Int} {n most : Nat} (hb : bytes b) (h : manyP most b = .ok (n, r)) : b = enc n ++ r ∧ n ≤ most := by
  unfold manyP at h
  split at h
  · rename_i x r' he
    obtain ⟨h1, h2⟩ := wordP_sound hb he
    split at h
    · cases h
    · simp only [Except.ok.injEq, Prod.mk.injEq] at h
      obtain ⟨rfl, rfl⟩ := h
      exact ⟨h1, by omega⟩
  · cases h
theorem manyP_back {n most : Nat} (hx : n < 18446744073709551616) (hm : n ≤ most) (r : List Int) : manyP most (enc n ++ r) = .ok (n, r) := by
  unfold manyP
  rw [wordP_back hx]
  simp only [if_neg (show ¬ n > most by omega)]
theorem listP_sound {b r z : List Int} (hb : bytes b) (h : listP b = .ok (z, r)) : b = lst z ++ r ∧ z.length ≤ 256 ∧ ∀ n ∈ z, i64b n = true := by
  unfold listP at h
  split at h
  · rename_i he
    obtain ⟨⟨l, m, e⟩, hp⟩ : ∃ q, q = readL b 256 := ⟨_, rfl⟩
    rw [← hp] at h he
    simp only at he
    subst he
    obtain ⟨a', e1, _, e3, e4, e5, e6⟩ := readL_sound b hb 256 l m hp.symm
    simp only [e1, Int.toNat_natCast, Except.ok.injEq, Prod.mk.injEq] at h
    obtain ⟨rfl, rfl⟩ := h
    refine ⟨?_, by omega, fun n hn => (i64b_iff n).2 (e6 n hn)⟩
    rw [e5, List.take_append_drop]
  · cases h
theorem listP_back {z : List Int} (h1 : z.length ≤ 256) (h2 : ∀ n ∈ z, i64b n = true) (r : List Int) : listP (lst z ++ r) = .ok (z, r) := by
  unfold listP
  rw [readL_back z r 256 (by omega) (by omega) (fun n hn => (i64b_iff n).1 (h2 n hn)), if_pos rfl]
  simp
def fineA (a : S54) : Prop := i64b a.f0 = true ∧ i64b a.f1.f0 = true ∧ i64b a.f1.f1 = true ∧ a.f1.f2.length ≤ 256 ∧ ∀ n ∈ a.f1.f2, i64b n = true
def fineL (l : List Int) : Prop := l.length ≤ 256 ∧ ∀ n ∈ l, i64b n = true
def fineE (e : S56) : Prop := i64b e.f0 = true ∧ i64b e.f1 = true ∧ i64b e.f2 = true ∧ i64b e.f3 = true ∧ 0 ≤ e.f4 ∧ e.f4 < 18446744073709551616 ∧ i64b e.f5 = true ∧ e.f6.length ≤ 256 ∧ ∀ n ∈ e.f6, i64b n = true
theorem listsP_sound : ∀ (n : Nat) {b r : List Int} {l : List (List Int)}, bytes b → listsP n b = .ok (l, r) → b = ups l ++ r ∧ l.length = n ∧ ∀ u ∈ l, fineL u
  | 0, b, r, l, _, h => by
    simp only [listsP, Except.ok.injEq, Prod.mk.injEq] at h
    obtain ⟨rfl, rfl⟩ := h
    exact ⟨rfl, rfl, fun u hu => absurd hu (by simp)⟩
  | n + 1, b, r, l, hb, h => by
    simp only [listsP] at h
    split at h
    · cases h
    · rename_i x l1 h1
      split at h
      · cases h
      · rename_i xs l2 h2
        simp only [Except.ok.injEq, Prod.mk.injEq] at h
        obtain ⟨rfl, rfl⟩ := h
        obtain ⟨e1, e2, e3⟩ := listP_sound hb h1
        subst e1
        obtain ⟨f1, f2, f3⟩ := listsP_sound n (bytes_tail hb) h2
        refine ⟨by rw [f1]; simp [ups], by simp [f2], fun u hu => ?_⟩
        rcases List.mem_cons.1 hu with rfl | hu
        · exact ⟨e2, e3⟩
        · exact f3 u hu
theorem listsP_back : ∀ (l : List (List Int)) (r : List Int), (∀ u ∈ l, fineL u) → listsP l.length (ups l ++ r) = .ok (l, r)
  | [], r, _ => rfl
  | x :: l, r, h => by
    have e : ups (x :: l) ++ r = lst x ++ (ups l ++ r) := by simp [ups]
    have hx := h x List.mem_cons_self
    rw [e, List.length_cons]
    simp only [listsP]
    rw [listP_back hx.1 hx.2]
    simp only
    rw [listsP_back l r (fun u hu => h u (List.mem_cons_of_mem _ hu))]
theorem actP_sound {b r : List Int} {a : S54} (hb : bytes b) (h : actP b = .ok (a, r)) : b = actB a ++ r ∧ fineA a := by
  unfold actP at h
  split at h
  · cases h
  · rename_i x l1 h1
    obtain ⟨rfl, i1⟩ := numP_sound hb h1
    have hb1 := bytes_tail hb
    split at h
    · cases h
    · rename_i y l2 h2
      obtain ⟨rfl, i2⟩ := numP_sound hb1 h2
      have hb2 := bytes_tail hb1
      split at h
      · cases h
      · rename_i t l3 h3
        obtain ⟨rfl, i3⟩ := numP_sound hb2 h3
        have hb3 := bytes_tail hb2
        split at h
        · cases h
        · rename_i z l4 h4
          obtain ⟨rfl, i4, i5⟩ := listP_sound hb3 h4
          simp only [Except.ok.injEq, Prod.mk.injEq] at h
          obtain ⟨rfl, rfl⟩ := h
          exact ⟨by simp [actB, nums_cons, nums_nil], i1, i2, i3, i4, i5⟩
theorem actP_back {a : S54} (h : fineA a) (r : List Int) : actP (actB a ++ r) = .ok (a, r) := by
  obtain ⟨i1, i2, i3, i4, i5⟩ := h
  have e : actB a ++ r = enc (zigI a.f0) ++ (enc (zigI a.f1.f0) ++ (enc (zigI a.f1.f1) ++ (lst a.f1.f2 ++ r))) := by simp [actB, nums_cons, nums_nil]
  unfold actP
  rw [e, numP_back i1]
  simp only
  rw [numP_back i2]
  simp only
  rw [numP_back i3]
  simp only
  rw [listP_back i4 i5]
theorem actsP_sound : ∀ (n : Nat) {b r : List Int} {l : List S54}, bytes b → actsP n b = .ok (l, r) → b = acts l ++ r ∧ l.length = n ∧ ∀ u ∈ l, fineA u
  | 0, b, r, l, _, h => by
    simp only [actsP, Except.ok.injEq, Prod.mk.injEq] at h
    obtain ⟨rfl, rfl⟩ := h
    exact ⟨rfl, rfl, fun u hu => absurd hu (by simp)⟩
  | n + 1, b, r, l, hb, h => by
    simp only [actsP] at h
    split at h
    · cases h
    · rename_i x l1 h1
      split at h
      · cases h
      · rename_i xs l2 h2
        simp only [Except.ok.injEq, Prod.mk.injEq] at h
        obtain ⟨rfl, rfl⟩ := h
        obtain ⟨e1, e2⟩ := actP_sound hb h1
        subst e1
        obtain ⟨f1, f2, f3⟩ := actsP_sound n (bytes_tail hb) h2
        refine ⟨by rw [f1]; simp [acts], by simp [f2], fun u hu => ?_⟩
        rcases List.mem_cons.1 hu with rfl | hu
        · exact e2
        · exact f3 u hu
theorem actsP_back : ∀ (l : List S54) (r : List Int), (∀ u ∈ l, fineA u) → actsP l.length (acts l ++ r) = .ok (l, r)
  | [], r, _ => rfl
  | x :: l, r, h => by
    have e : acts (x :: l) ++ r = actB x ++ (acts l ++ r) := by simp [acts]
    rw [e, List.length_cons]
    simp only [actsP]
    rw [actP_back (h x List.mem_cons_self)]
    simp only
    rw [actsP_back l r (fun u hu => h u (List.mem_cons_of_mem _ hu))]
theorem evP_sound {b r : List Int} {a : S56} (hb : bytes b) (h : evP b = .ok (a, r)) : b = evB a ++ r ∧ fineE a := by
  unfold evP at h
  split at h
  · cases h
  · rename_i x1 l1 h1
    obtain ⟨rfl, i1⟩ := numP_sound hb h1
    have hb1 := bytes_tail hb
    split at h
    · cases h
    · rename_i x2 l2 h2
      obtain ⟨rfl, i2⟩ := numP_sound hb1 h2
      have hb2 := bytes_tail hb1
      split at h
      · cases h
      · rename_i x3 l3 h3
        obtain ⟨rfl, i3⟩ := numP_sound hb2 h3
        have hb3 := bytes_tail hb2
        split at h
        · cases h
        · rename_i x4 l4 h4
          obtain ⟨rfl, i4⟩ := numP_sound hb3 h4
          have hb4 := bytes_tail hb3
          split at h
          · cases h
          · rename_i p l5 h5
            obtain ⟨rfl, i5⟩ := wordP_sound hb4 h5
            have hb5 := bytes_tail hb4
            split at h
            · cases h
            · rename_i x6 l6 h6
              obtain ⟨rfl, i6⟩ := numP_sound hb5 h6
              have hb6 := bytes_tail hb5
              split at h
              · cases h
              · rename_i z l7 h7
                obtain ⟨rfl, i7, i8⟩ := listP_sound hb6 h7
                simp only [Except.ok.injEq, Prod.mk.injEq] at h
                obtain ⟨rfl, rfl⟩ := h
                exact ⟨by simp [evB, nums_cons, nums_nil], i1, i2, i3, i4, by simp, by simp only; omega, i6, i7, i8⟩
theorem evP_back {a : S56} (h : fineE a) (r : List Int) : evP (evB a ++ r) = .ok (a, r) := by
  obtain ⟨i1, i2, i3, i4, i5, i6, i7, i8, i9⟩ := h
  have e : evB a ++ r = enc (zigI a.f0) ++ (enc (zigI a.f1) ++ (enc (zigI a.f2) ++ (enc (zigI a.f3) ++ (enc a.f4.toNat ++ (enc (zigI a.f5) ++ (lst a.f6 ++ r)))))) := by simp [evB, nums_cons, nums_nil]
  unfold evP
  rw [e, numP_back i1]
  simp only
  rw [numP_back i2]
  simp only
  rw [numP_back i3]
  simp only
  rw [numP_back i4]
  simp only
  rw [wordP_back (by omega)]
  simp only
  rw [numP_back i7]
  simp only
  rw [listP_back i8 i9]
  simp only [Int.toNat_of_nonneg i5]
theorem evsP_sound : ∀ (n : Nat) {b r : List Int} {l : List S56}, bytes b → evsP n b = .ok (l, r) → b = evs l ++ r ∧ l.length = n ∧ ∀ u ∈ l, fineE u
  | 0, b, r, l, _, h => by
    simp only [evsP, Except.ok.injEq, Prod.mk.injEq] at h
    obtain ⟨rfl, rfl⟩ := h
    exact ⟨rfl, rfl, fun u hu => absurd hu (by simp)⟩
  | n + 1, b, r, l, hb, h => by
    simp only [evsP] at h
    split at h
    · cases h
    · rename_i x l1 h1
      split at h
      · cases h
      · rename_i xs l2 h2
        simp only [Except.ok.injEq, Prod.mk.injEq] at h
        obtain ⟨rfl, rfl⟩ := h
        obtain ⟨e1, e2⟩ := evP_sound hb h1
        subst e1
        obtain ⟨f1, f2, f3⟩ := evsP_sound n (bytes_tail hb) h2
        refine ⟨by rw [f1]; simp [evs], by simp [f2], fun u hu => ?_⟩
        rcases List.mem_cons.1 hu with rfl | hu
        · exact e2
        · exact f3 u hu
theorem evsP_back : ∀ (l : List S56) (r : List Int), (∀ u ∈ l, fineE u) → evsP l.length (evs l ++ r) = .ok (l, r)
  | [], r, _ => rfl
  | x :: l, r, h => by
    have e : evs (x :: l) ++ r = evB x ++ (evs l ++ r) := by simp [evs]
    rw [e, List.length_cons]
    simp only [evsP]
    rw [evP_back (h x List.mem_cons_self)]
    simp only
    rw [evsP_back l r (fun u hu => h u (List.mem_cons_of_mem _ hu))]
theorem unlogP_sound {b : List Int} {l : List S56} (hb : bytes b) (h : unlogP b = .ok l) : b = enc l.length ++ evs l ∧ l.length ≤ 65536 ∧ ∀ u ∈ l, fineE u := by
  unfold unlogP at h
  split at h
  · cases h
  · rename_i n l1 h1
    obtain ⟨rfl, i1⟩ := manyP_sound hb h1
    have hb1 := bytes_tail hb
    cases h2 : evsP n l1 with
    | error e => rw [h2] at h; cases h
    | ok q =>
      obtain ⟨xs, r⟩ := q
      rw [h2] at h
      obtain ⟨e1, e2, e3⟩ := evsP_sound n hb1 h2
      cases r with
      | nil =>
        simp only [finP, List.nil_append, Except.ok.injEq] at h
        subst h
        exact ⟨by rw [e2, e1, List.append_nil], by omega, e3⟩
      | cons c r => cases h
theorem unlogP_back {l : List S56} (h1 : l.length ≤ 65536) (h2 : ∀ u ∈ l, fineE u) : unlogP (enc l.length ++ evs l) = .ok l := by
  unfold unlogP
  rw [manyP_back (by omega) h1]
  simp only
  have := evsP_back l [] h2
  rw [List.append_nil] at this
  rw [this]
  simp [finP]
structure FineS (s : Scr) : Prop where
  a : i64b s.a = true
  b : i64b s.b = true
  c : i64b s.c = true
  d : i64b s.d = true
  p0 : 0 ≤ s.p
  p1 : s.p < 18446744073709551616
  un : s.up.length ≤ 256
  u : ∀ x ∈ s.up, fineL x
  an : s.acts.length ≤ 4096
  s : ∀ x ∈ s.acts, fineA x
theorem unscriptP_sound {b : List Int} {s : Scr} (hb : bytes b) (h : unscriptP b = .ok s) : b = scrB s.a s.b s.c s.d s.p s.up s.acts ∧ FineS s := by
  unfold unscriptP at h
  split at h
  · cases h
  · rename_i x1 l1 h1
    obtain ⟨rfl, i1⟩ := numP_sound hb h1
    have hb1 := bytes_tail hb
    split at h
    · cases h
    · rename_i x2 l2 h2
      obtain ⟨rfl, i2⟩ := numP_sound hb1 h2
      have hb2 := bytes_tail hb1
      split at h
      · cases h
      · rename_i x3 l3 h3
        obtain ⟨rfl, i3⟩ := numP_sound hb2 h3
        have hb3 := bytes_tail hb2
        split at h
        · cases h
        · rename_i x4 l4 h4
          obtain ⟨rfl, i4⟩ := numP_sound hb3 h4
          have hb4 := bytes_tail hb3
          split at h
          · cases h
          · rename_i p l5 h5
            obtain ⟨rfl, i5⟩ := wordP_sound hb4 h5
            have hb5 := bytes_tail hb4
            split at h
            · cases h
            · rename_i n l6 h6
              obtain ⟨rfl, i6⟩ := manyP_sound hb5 h6
              have hb6 := bytes_tail hb5
              cases h7 : listsP n l6 with
              | error e => rw [h7] at h; cases h
              | ok q =>
                obtain ⟨us, r⟩ := q
                rw [h7] at h
                obtain ⟨rfl, i7, i8⟩ := listsP_sound n hb6 h7
                have hb7 := bytes_tail hb6
                simp only [finU] at h
                split at h
                · cases h
                · rename_i m l8 h8
                  obtain ⟨rfl, i9⟩ := manyP_sound hb7 h8
                  have hb8 := bytes_tail hb7
                  cases h9 : actsP m l8 with
                  | error e => rw [h9] at h; cases h
                  | ok q =>
                    obtain ⟨xs, r⟩ := q
                    rw [h9] at h
                    obtain ⟨rfl, j1, j2⟩ := actsP_sound m hb8 h9
                    cases r with
                    | nil =>
                      simp only [finA, List.nil_append, Except.ok.injEq] at h
                      subst h
                      exact ⟨by simp [scrB, nums_cons, nums_nil, i7, j1], i1, i2, i3, i4, by simp, by simp only; omega, by simp only; omega, i8, by simp only; omega, j2⟩
                    | cons c r => cases h
theorem unscriptP_back {s : Scr} (h : FineS s) : unscriptP (scrB s.a s.b s.c s.d s.p s.up s.acts) = .ok s := by
  have hu := h.un
  have ha := h.an
  have e : scrB s.a s.b s.c s.d s.p s.up s.acts = enc (zigI s.a) ++ (enc (zigI s.b) ++ (enc (zigI s.c) ++ (enc (zigI s.d) ++ (enc s.p.toNat ++ (enc s.up.length ++ (ups s.up ++ (enc s.acts.length ++ acts s.acts))))))) := by simp [scrB, nums_cons, nums_nil]
  have hp := h.p1
  unfold unscriptP
  rw [e, numP_back h.a]
  simp only
  rw [numP_back h.b]
  simp only
  rw [numP_back h.c]
  simp only
  rw [numP_back h.d]
  simp only
  rw [wordP_back (by omega)]
  simp only
  rw [manyP_back (by omega) hu]
  simp only
  rw [listsP_back s.up _ h.u]
  simp only [finU]
  rw [manyP_back (by omega) ha]
  simp only
  have := actsP_back s.acts [] h.s
  rw [List.append_nil] at this
  rw [this]
  simp only [finA, List.nil_append, Int.toNat_of_nonneg h.p0]
theorem log_nil : pack_Log.f [] = some ([0], 0) := by
  unfold pack_Log.f
  rw [if_pos (by simp), if_pos (by simp), if_neg (by simp [evLong])]
  simp [evs, enc_small]
theorem unlog_zero : pack_Unlog.f [0] = some ([], 0) := by
  unfold pack_Unlog.f
  rw [if_pos (by simp)]
  have e1 : getP [0] = (0, 1, 0) := by decide
  have e2 : unlogP [0] = .ok [] := by
    unfold unlogP manyP wordP
    rw [e1]
    simp [evsP, finP]
  rw [e2]
  rfl
theorem live_yes : sakialaw38_live.f = some true := by
  unfold sakialaw38_live.f
  rw [log_nil, Option.bind_some, unlog_zero, Option.bind_some]
  rfl
theorem wordP_err {l : List Int} {e : Int} (h : wordP l = .error e) : e ≠ 0 := by
  unfold wordP at h
  split at h
  · cases h
  · rename_i hn
    injection h with h
    rwa [← h]
theorem numP_err {l : List Int} {e : Int} (h : numP l = .error e) : e ≠ 0 := by
  unfold numP at h
  split at h
  · cases h
  · rename_i e' he
    injection h with h
    rw [← h]
    exact wordP_err he
theorem manyP_err {m : Nat} {l : List Int} {e : Int} (h : manyP m l = .error e) : e ≠ 0 := by
  unfold manyP at h
  split at h
  · split at h
    · injection h with h
      rw [← h]
      decide
    · cases h
  · rename_i e' he
    injection h with h
    rw [← h]
    exact wordP_err he
theorem listP_err {l : List Int} {e : Int} (h : listP l = .error e) : e ≠ 0 := by
  unfold listP at h
  split at h
  · cases h
  · rename_i hn
    injection h with h
    rwa [← h]
theorem actP_err {l : List Int} {e : Int} (h : actP l = .error e) : e ≠ 0 := by
  unfold actP at h
  repeat' split at h
  all_goals first
    | (rename_i he; injection h with h; subst h; first | exact numP_err he | exact listP_err he)
    | cases h
theorem evP_err {l : List Int} {e : Int} (h : evP l = .error e) : e ≠ 0 := by
  unfold evP at h
  repeat' split at h
  all_goals first
    | (rename_i he; injection h with h; subst h; first | exact numP_err he | exact wordP_err he | exact listP_err he)
    | cases h
theorem listsP_err : ∀ (n : Nat) {l : List Int} {e : Int}, listsP n l = .error e → e ≠ 0
  | 0, l, e, h => by cases h
  | n + 1, l, e, h => by
    simp only [listsP] at h
    split at h
    · rename_i he
      injection h with h
      subst h
      exact listP_err he
    · split at h
      · rename_i he
        injection h with h
        subst h
        exact listsP_err n he
      · cases h
theorem actsP_err : ∀ (n : Nat) {l : List Int} {e : Int}, actsP n l = .error e → e ≠ 0
  | 0, l, e, h => by cases h
  | n + 1, l, e, h => by
    simp only [actsP] at h
    split at h
    · rename_i he
      injection h with h
      subst h
      exact actP_err he
    · split at h
      · rename_i he
        injection h with h
        subst h
        exact actsP_err n he
      · cases h
theorem evsP_err : ∀ (n : Nat) {l : List Int} {e : Int}, evsP n l = .error e → e ≠ 0
  | 0, l, e, h => by cases h
  | n + 1, l, e, h => by
    simp only [evsP] at h
    split at h
    · rename_i he
      injection h with h
      subst h
      exact evP_err he
    · split at h
      · rename_i he
        injection h with h
        subst h
        exact evsP_err n he
      · cases h
theorem unlogP_err {l : List Int} {e : Int} (h : unlogP l = .error e) : e ≠ 0 := by
  unfold unlogP at h
  split at h
  · rename_i he
    injection h with h
    subst h
    exact manyP_err he
  · rename_i n l1 h1
    cases h2 : evsP n l1 with
    | error e' =>
      rw [h2] at h
      simp only [finP] at h
      injection h with h
      subst h
      exact evsP_err n h2
    | ok q =>
      obtain ⟨xs, r⟩ := q
      rw [h2] at h
      cases r with
      | nil => cases h
      | cons c r =>
        simp only [finP] at h
        injection h with h
        subst h
        decide
theorem unscriptP_err {l : List Int} {e : Int} (h : unscriptP l = .error e) : e ≠ 0 := by
  unfold unscriptP at h
  repeat' split at h
  all_goals first
    | (rename_i he; injection h with h; subst h; first | exact numP_err he | exact wordP_err he | exact manyP_err he)
    | skip
  rename_i n l6 _
  cases h2 : listsP n l6 with
  | error e' =>
    rw [h2] at h
    simp only [finU] at h
    injection h with h
    subst h
    exact listsP_err n h2
  | ok q =>
    obtain ⟨us, r⟩ := q
    rw [h2] at h
    simp only [finU] at h
    split at h
    · rename_i he
      injection h with h
      subst h
      exact manyP_err he
    · rename_i m l8 _
      cases h3 : actsP m l8 with
      | error e' =>
        rw [h3] at h
        simp only [finA] at h
        injection h with h
        subst h
        exact actsP_err m h3
      | ok q =>
        obtain ⟨xs, r⟩ := q
        rw [h3] at h
        cases r with
        | nil => cases h
        | cons c r =>
          simp only [finA] at h
          injection h with h
          subst h
          decide
theorem bytes_all {b : List Int} (hb : bytes b) : (b.all fun c => decide (0 ≤ c) && decide (c ≤ 255)) = true := by
  rw [List.all_eq_true]
  intro c hc
  have := hb c hc
  simp only [this.1, this.2, decide_true, Bool.and_self]
theorem unscript_f {b : List Int} (hb : bytes b) (hl : b.length ≤ 2000000) : pack_Unscript.f b = some (outP zScr (unscriptP b)) := by
  unfold pack_Unscript.f
  rw [if_pos ⟨hl, bytes_all hb⟩]
theorem unlog_f {b : List Int} (hb : bytes b) (hl : b.length ≤ 2000000) : pack_Unlog.f b = some (outP [] (unlogP b)) := by
  unfold pack_Unlog.f
  rw [if_pos ⟨hl, bytes_all hb⟩]
theorem enc_one (x : Nat) : 1 ≤ (enc x).length := enc_pos x
theorem acts_count (l : List S54) : 4 * l.length ≤ (acts l).length := by
  induction l with
  | nil => exact Nat.le_refl _
  | cons a l ih =>
    have e : acts (a :: l) = actB a ++ acts l := by simp [acts]
    have h1 := enc_one (zigI a.f0)
    have h2 := enc_one (zigI a.f1.f0)
    have h3 := enc_one (zigI a.f1.f1)
    have h4 := enc_one a.f1.f2.length
    rw [e, List.length_append, List.length_cons]
    simp only [actB, nums_cons, nums_nil, lst, List.length_append, List.length_nil]
    omega
theorem evs_count (l : List S56) : 7 * l.length ≤ (evs l).length := by
  induction l with
  | nil => exact Nat.le_refl _
  | cons a l ih =>
    have e : evs (a :: l) = evB a ++ evs l := by simp [evs]
    have h1 := enc_one (zigI a.f0)
    have h2 := enc_one (zigI a.f1)
    have h3 := enc_one (zigI a.f2)
    have h4 := enc_one (zigI a.f3)
    have h5 := enc_one a.f4.toNat
    have h6 := enc_one (zigI a.f5)
    have h7 := enc_one a.f6.length
    rw [e, List.length_append, List.length_cons]
    simp only [evB, nums_cons, nums_nil, lst, List.length_append, List.length_nil]
    omega
theorem fineL_ok {l : List Int} (h : fineL l) : okL l = true := by
  simp only [okL, Bool.and_eq_true, decide_eq_true_eq, List.all_eq_true]
  exact ⟨by have := h.1; omega, h.2⟩
theorem fineA_ok {a : S54} (h : fineA a) : okA a = true := by
  obtain ⟨h1, h2, h3, h4, h5⟩ := h
  simp only [okA, h1, h2, h3, fineL_ok ⟨h4, h5⟩, Bool.and_self]
theorem fineE_ok {a : S56} (h : fineE a) : okE a = true := by
  obtain ⟨h1, h2, h3, h4, h5, h6, h7, h8, h9⟩ := h
  simp only [okE, Bool.and_eq_true, decide_eq_true_eq, List.all_eq_true]
  exact ⟨⟨⟨⟨⟨⟨⟨⟨h1, h2⟩, h3⟩, h4⟩, h7⟩, h5⟩, h6⟩, by omega⟩, h9⟩
theorem script_f {s : Scr} (h : FineS s) (ha : s.acts.length ≤ 1000) : pack_Script.f s.a s.b s.c s.d s.p s.up s.acts = some (scrB s.a s.b s.c s.d s.p s.up s.acts, 0) := by
  have hu := h.un
  unfold pack_Script.f
  rw [if_pos (by simp only [h.a, h.b, h.c, h.d, h.p0, h.p1, decide_true, Bool.and_self]), if_pos ⟨by omega, ha⟩, if_pos, if_neg]
  · simp only [scrLong, upLong, actLong, Bool.or_eq_true, decide_eq_true_eq, List.any_eq_true, not_or, not_exists, not_and]
    refine ⟨⟨⟨by omega, fun x hx => ?_⟩, by omega⟩, fun x hx => ?_⟩
    · have := (h.u x hx).1
      omega
    · have := (h.s x hx).2.2.2.1
      omega
  · simp only [Bool.and_eq_true, List.all_eq_true]
    exact ⟨fun x hx => fineL_ok (h.u x hx), fun x hx => fineA_ok (h.s x hx)⟩
theorem log_f {l : List S56} (h : ∀ e ∈ l, fineE e) (hl : l.length ≤ 1000) : pack_Log.f l = some (enc l.length ++ evs l, 0) := by
  unfold pack_Log.f
  rw [if_pos hl, if_pos (List.all_eq_true.2 (fun e he => fineE_ok (h e he))), if_neg]
  simp only [evLong, Bool.or_eq_true, decide_eq_true_eq, List.any_eq_true, not_or, not_exists, not_and]
  refine ⟨by omega, fun x hx => ?_⟩
  have := (h x hx).2.2.2.2.2.2.2.1
  omega
theorem once_script {b : List Int} (hb : bytes b) (hl : b.length ≤ 4000) {s : Scr} (h : unscriptP b = .ok s) : pack_Script.f s.a s.b s.c s.d s.p s.up s.acts = some (b, 0) := by
  obtain ⟨e, hf⟩ := unscriptP_sound hb h
  have hc := acts_count s.acts
  have hle : (acts s.acts).length ≤ b.length := by
    rw [e]
    simp only [scrB, List.length_append]
    omega
  rw [script_f hf (by omega), ← e]
theorem once_log {b : List Int} (hb : bytes b) (hl : b.length ≤ 4000) {l : List S56} (h : unlogP b = .ok l) : pack_Log.f l = some (b, 0) := by
  obtain ⟨e, _, hf⟩ := unlogP_sound hb h
  have hc := evs_count l
  have hle : (evs l).length ≤ b.length := by
    rw [e, List.length_append]
    omega
  rw [log_f hf (by omega), ← e]
end Go.Proofs.Ytoobhpgkecplmaa.QPackReads
