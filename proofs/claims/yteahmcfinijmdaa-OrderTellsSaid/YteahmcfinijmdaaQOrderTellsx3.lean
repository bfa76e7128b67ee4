-- Written for this claim by a program of this session.
import Derived.Test.YteahmcfinijmdaaQOrderTellsx0
import Derived.Test.YteahmcfinijmdaaQOrderTellsx1
import Derived.Test.YteahmcfinijmdaaQOrderTellsx2
namespace Go.Proofs.Yteahmcfinijmdaa.QOrderTells
open Go.RowKit Go.Proofs.YteahmcfinijmdaaW.PrintWords Go.Proofs.YteahmcfinijmdaaW.PrintLast Go.Proofs.YteahmcfinijmdaaW.PrintMore
attribute [local go_sem] max2_int min2_int max_two min_two max_three min_three max_four min_four   -- for this text's walks alone
set_option linter.unusedVariables false
set_option linter.unusedSimpArgs false

/-! ### order_Clocks: function 12 -/
open Go Go.Proofs.Yteahmcfinijmdaa.Imp
theorem lt_of_blk {W : World} {g : Nat} {o : Obj} (h : W.heap[g]? = some o) : g < W.heap.size := (Array.getElem?_eq_some_iff.1 h).1
theorem rd_drop (a : List Int) (i : Nat) (h : i < a.length) : a.drop i = rd a (i : Int) :: a.drop (i + 1) := by
  rw [List.drop_eq_getElem_cons h]
  simp [rd, List.getD_eq_getElem?_getD, h]
theorem rd_get (a : List Int) (i : Nat) (h : i < a.length) : rd a (i : Int) = a[i] := by
  simp [rd, List.getD_eq_getElem?_getD, h]
theorem wrap_succ (i : Nat) (h : i < 9223372036854775807) : wrap64 ((i : Int) + 1) = ((i + 1 : Nat) : Int) := by
  unfold wrap64; omega

def okn (x : Int) : Bool := decide (0 ≤ x) && decide (x ≤ 1099511627776)
def right (c : List Int) : Bool := decide (0 < c.length) && decide (c.length ≤ 10) && c.all okn
def both (a b : List Int) : Bool := right a && right b && decide (a.length = b.length)
theorem okn_neg {x : Int} (h : x < 0) : okn x = false := by simp [okn]; omega
theorem okn_big {x : Int} (h : x > 1099511627776) : okn x = false := by simp [okn]; omega
theorem okn_yes {x : Int} (h : ¬ x < 0) (h' : ¬ x > 1099511627776) : okn x = true := by simp [okn]; omega

theorem right_loop (c : List Int) (hc : c.length ≤ 10) (d : Nat) : ∀ (k i : Nat), i + d = c.length → d < k →
    tick_Right.l0 k c c.length i = some ((c.drop i).all okn) := by
  induction d with
  | zero =>
    intro k i hi hk
    obtain ⟨k, rfl⟩ : ∃ m, k = m + 1 := ⟨k - 1, by omega⟩
    simp only [tick_Right.l0]
    rw [if_neg (by omega), List.drop_of_length_le (by omega)]
    rfl
  | succ d ih =>
    intro k i hi hk
    obtain ⟨k, rfl⟩ : ∃ m, k = m + 1 := ⟨k - 1, by omega⟩
    simp only [tick_Right.l0]
    rw [if_pos (by omega), if_pos (by omega), if_pos (by omega), rd_drop c i (by omega), List.all_cons]
    by_cases h1 : rd c i < 0
    · rw [if_pos h1, okn_neg h1]; simp
    · rw [if_neg h1]
      by_cases h2 : rd c i > 1099511627776
      · rw [if_pos h2, okn_big h2]; simp
      · rw [if_neg h2, okn_yes h1 h2, wrap_succ i (by omega), ih k (i + 1) (by omega) (by omega)]; simp
theorem tright (c : List Int) (k : Nat) (hk : 20 ≤ k) : tick_Right.f k c = some (right c) := by
  obtain ⟨k, rfl⟩ : ∃ m, k = m + 1 := ⟨k - 1, by omega⟩
  unfold tick_Right.f right
  by_cases h1 : (c.length : Int) < 1
  · rw [if_pos h1, decide_eq_false (show ¬ 0 < c.length by omega)]
    simp [tick_Right.j0]
  · rw [if_neg h1, decide_eq_true (show 0 < c.length by omega)]
    simp only [tick_Right.j0]
    by_cases h2 : c.length ≤ 10
    · rw [decide_eq_false (show ¬ (c.length : Int) > 10 by omega), if_neg (by decide), decide_eq_true h2]
      exact right_loop c h2 c.length k 0 (by omega) (by omega)
    · rw [decide_eq_true (show (c.length : Int) > 10 by omega), if_pos rfl, decide_eq_false h2]
      simp
theorem tboth (a b : List Int) (k : Nat) (hk : 20 ≤ k) : tick_both.f k a b = some (both a b) := by
  unfold tick_both.f both
  rw [tright a k hk, tright b k hk]
  simp only [Option.bind_some]
  by_cases h : a.length = b.length
  · rw [if_pos (by omega), decide_eq_true h]
    cases right a <;> simp
  · rw [if_neg (by omega), decide_eq_false h]
    simp
theorem right_len {c : List Int} (h : right c = true) : 0 < c.length ∧ c.length ≤ 10 := by
  simp only [right, Bool.and_eq_true, decide_eq_true_eq] at h
  exact h.1
theorem right_at {c : List Int} (h : right c = true) (i : Nat) (hi : i < c.length) : 0 ≤ rd c i ∧ rd c i ≤ 1099511627776 := by
  simp only [right, Bool.and_eq_true, decide_eq_true_eq, List.all_eq_true] at h
  have := h.2 _ (List.getElem_mem hi)
  rw [rd_get c i hi]
  simpa [okn] using this
theorem both_parts {a b : List Int} (h : both a b = true) : right a = true ∧ right b = true ∧ a.length = b.length := by
  simp only [both, Bool.and_eq_true, decide_eq_true_eq] at h
  exact ⟨h.1.1, h.1.2, h.2⟩
theorem both_mk {a b : List Int} (h1 : right a = true) (h2 : right b = true) (h3 : a.length = b.length) : both a b = true := by
  simp [both, h1, h2, h3]
theorem right_mk {c : List Int} (h0 : 0 < c.length) (h1 : c.length ≤ 10) (h : ∀ i : Nat, i < c.length → 0 ≤ rd c i ∧ rd c i ≤ 1099511627776) : right c = true := by
  simp only [right, Bool.and_eq_true, decide_eq_true_eq, List.all_eq_true]
  refine ⟨⟨h0, h1⟩, fun x hx => ?_⟩
  obtain ⟨i, hi, rfl⟩ := List.mem_iff_getElem.1 hx
  have := h i hi
  rw [rd_get c i hi] at this
  simp [okn, this]

/-! join -/
def joinZ (a b : List Int) : List Int := List.zipWith mx a b
def join (a b : List Int) : List Int := if both a b = true then joinZ a b else []
theorem joinZ_len {a b : List Int} (h : a.length = b.length) : (joinZ a b).length = a.length := by simp [joinZ]; omega
theorem joinZ_rd {a b : List Int} (h : a.length = b.length) (i : Nat) (hi : i < a.length) : rd (joinZ a b) i = mx (rd a i) (rd b i) := by
  rw [rd_get _ i (by rw [joinZ_len h]; exact hi), rd_get a i hi, rd_get b i (by omega)]
  simp [joinZ]
theorem set_fill (L : List Int) (i : Nat) (h : i < L.length) (z : Int) : (L.take i ++ List.replicate (L.length - i) z).set i (rd L i) = L.take (i + 1) ++ List.replicate (L.length - (i + 1)) z := by
  rw [rd_get L i h, List.set_append_right _ _ (by simp; omega)]
  have e : L.length - i = (L.length - (i + 1)) + 1 := by omega
  rw [e, List.replicate_succ]
  simp only [List.length_take, Nat.min_eq_left (Nat.le_of_lt h), Nat.sub_self, List.set_cons_zero]
  rw [List.take_succ_eq_append_getElem h, List.append_assoc]
  rfl
theorem join_loop (a b : List Int) (h : a.length = b.length) (hl : a.length ≤ 10) (d : Nat) : ∀ (k i : Nat), i + d = a.length → d < k →
    tick_Join.l0 k a b ((joinZ a b).take i ++ List.replicate (a.length - i) 0) a.length i = some (joinZ a b) := by
  induction d with
  | zero =>
    intro k i hi hk
    obtain ⟨k, rfl⟩ : ∃ m, k = m + 1 := ⟨k - 1, by omega⟩
    simp only [tick_Join.l0]
    rw [if_neg (by omega), List.take_of_length_le (by rw [joinZ_len h]; omega), show a.length - i = 0 by omega]
    simp
  | succ d ih =>
    intro k i hi hk
    obtain ⟨k, rfl⟩ : ∃ m, k = m + 1 := ⟨k - 1, by omega⟩
    have hz := joinZ_len h
    simp only [tick_Join.l0]
    rw [if_pos (by omega), if_pos (by omega), if_pos (by omega), if_pos (by omega), if_pos (by simp [hz]; omega)]
    rw [← joinZ_rd h i (by omega), Int.toNat_natCast]
    have := set_fill (joinZ a b) i (by omega) 0
    rw [hz] at this
    rw [this, wrap_succ i (by omega)]
    exact ih k (i + 1) (by omega) (by omega)
theorem tjoin (a b : List Int) (k : Nat) (hk : 20 ≤ k) : tick_Join.f k a b = some (join a b) := by
  unfold tick_Join.f join
  rw [tboth a b k hk]
  simp only [Option.bind_some]
  by_cases h : both a b = true
  · rw [if_pos h, if_pos h]
    obtain ⟨h1, h2, h3⟩ := both_parts h
    have hl := right_len h1
    rw [if_pos (by omega), Int.toNat_natCast, if_pos (by omega)]
    exact join_loop a b h3 hl.2 a.length k 0 (by omega) (by omega)
  · rw [if_neg h, if_neg h]

/-! two lists alike -/
def tick (c : List Int) (i : Int) : List Int := if right c = true ∧ 0 ≤ i ∧ i < c.length ∧ ¬ rd c i = 1099511627776 then c.set i.toNat (rd c i + 1) else []
theorem ttick (c : List Int) (i : Int) (k : Nat) (hk : 20 ≤ k) : tick_Tick.f k c i = some (tick c i) := by
  unfold tick_Tick.f tick
  rw [tright c k hk]
  simp only [Option.bind_some]
  by_cases h : right c = true
  · rw [if_pos h]
    have hl := right_len h
    by_cases h0 : i < 0
    · rw [if_pos h0, if_neg (by omega)]
    · rw [if_neg h0]
      by_cases h1 : i ≥ (c.length : Int)
      · rw [if_pos h1, if_neg (by omega)]
      · rw [if_neg h1, if_pos (by omega), if_pos (by omega)]
        by_cases h2 : rd c i = 1099511627776
        · rw [if_pos h2, if_neg (by simp [h2])]
        · have e := right_at h i.toNat (by omega)
          rw [Int.toNat_of_nonneg (by omega)] at e
          have hm : right c = true ∧ 0 ≤ i ∧ i < (c.length : Int) ∧ ¬ rd c i = 1099511627776 := ⟨h, by omega, by omega, h2⟩
          rw [if_neg h2, if_pos hm]
          simp only [List.nil_append, List.length_nil, Option.bind_some]
          rw [if_pos (by omega), if_pos (by omega), show wrap64 (rd c i + 1) = rd c i + 1 by unfold wrap64; omega]
  · rw [if_neg h, if_neg (by simp [h])]
def atomB (k : Int) : Bool := decide (1 ≤ k) && decide (k ≤ 5)
def wrB (k : Int) : Bool := decide (k = 2) || decide (k = 3) || decide (k = 4) || decide (k = 7)
def rdB (k : Int) : Bool := decide (k = 1) || decide (k = 3) || decide (k = 4) || decide (k = 5) || decide (k = 6)
theorem atom_is (k : Int) : order_atomic.f k = some (atomB k) := by
  unfold order_atomic.f atomB
  by_cases h : k ≥ 1
  · rw [if_pos h, decide_eq_true (by omega : 1 ≤ k), Bool.true_and]
  · rw [if_neg h, decide_eq_false (by omega : ¬ 1 ≤ k), Bool.false_and]
theorem wr_is (k : Int) : order_Writes.f k = some (wrB k) := by
  unfold order_Writes.f wrB
  repeat' split
  all_goals simp_all
theorem rd_is (k : Int) : order_Reads.f k = some (rdB k) := by
  unfold order_Reads.f rdB
  repeat' split
  all_goals simp_all
/-- what is known behind some accesses: each thread's clock, each cell's clock, the accesses' clocks -/
structure CS where
  K : List (List Int)
  M : Int → Option (List Int)
  O : List (List Int)
def clk1 (s : CS) (a : S33) : List Int :=
  if (s.M a.f2).isSome && (atomB a.f1 && rdB a.f1) then join (tick (s.K.getD a.f0.toNat []) a.f0) ((s.M a.f2).getD []) else tick (s.K.getD a.f0.toNat []) a.f0
def clkM (s : CS) (a : S33) (c : List Int) : Int → Option (List Int) := if atomB a.f1 && wrB a.f1 then fun y => if y = a.f2 then some c else s.M y else s.M
def cstep (s : CS) (a : S33) : CS := ⟨s.K.set a.f0.toNat (clk1 s a), clkM s a (clk1 s a), s.O ++ [clk1 s a]⟩
def cs0 (n : Nat) : CS := ⟨List.replicate n (List.replicate n 0), fun _ => none, []⟩
def crun (n : Nat) (l : List S33) : CS := l.foldl cstep (cs0 n)
theorem crun_succ (n : Nat) (l : List S33) (i : Nat) (hi : i < l.length) : crun n (l.take (i + 1)) = cstep (crun n (l.take i)) l[i] := by
  unfold crun
  rw [List.take_succ_eq_append_getElem hi, List.foldl_append]
  rfl
theorem cstep_K (s : CS) (a : S33) : (cstep s a).K.length = s.K.length := by simp [cstep]
theorem crun_K (n : Nat) (l : List S33) : (crun n l).K.length = n := by
  unfold crun
  have h : ∀ (l : List S33) (s : CS), (l.foldl cstep s).K.length = s.K.length := by
    intro l
    induction l with
    | nil => intro s; rfl
    | cons a l ih => intro s; rw [List.foldl_cons, ih, cstep_K]
  rw [h]
  simp [cs0]
theorem crun_O (n : Nat) (l : List S33) : (crun n l).O.length = l.length := by
  unfold crun
  have h : ∀ (l : List S33) (s : CS), (l.foldl cstep s).O.length = s.O.length + l.length := by
    intro l
    induction l with
    | nil => intro s; rfl
    | cons a l ih =>
      intro s
      rw [List.foldl_cons, ih]
      simp [cstep]
      omega
  rw [h]
  simp [cs0]
/-! what becomes of the rows of whole numbers (type 3): nothing -/
def Rows3 (w w' : World) : Prop := ∀ (k : Nat) (cells : Array Value), w.heap[k]? = some (.cells cells 3 (0, 0)) → w'.heap[k]? = some (.cells cells 3 (0, 0))
theorem Rows3.refl (w : World) : Rows3 w w := fun _ _ h => h
theorem Rows3.trans {a b c : World} (h : Rows3 a b) (h2 : Rows3 b c) : Rows3 a c := fun k cells hk => h2 k cells (h k cells hk)
theorem Rows3.below {w w' : World} (h : Below w.heap.size w w') : Rows3 w w' := fun k cells hk => (h.block k (lt_of_blk hk)).trans hk
theorem Rows3.set {w : World} {g t : Nat} {cs : Array Value} (hb : w.heap[g]? = some (.cells cs t (0, 0))) (ht : t ≠ 3) (j : Nat) (u : Value) : Rows3 w (w.setCell ⟨g, j, none⟩ u) := fun k cells hk => by
  rw [Below.heap_setCell w ⟨g, j, none⟩ u k ?_]
  · exact hk
  · rintro rfl
    rw [hb] at hk
    simp at hk
    exact ht hk.2
theorem Rows3.grown {w w' : World} {row : Option Nat} (h : w.grownBy w' row) (hr : ∀ k, row = some k → ∀ cells : Array Value, w.heap[k]? ≠ some (.cells cells 3 (0, 0))) : Rows3 w w' := fun k cells hk => by
  rw [h.block k (lt_of_blk hk) ?_]
  · exact hk
  · intro e
    exact hr k e.symm cells hk
theorem row3 {B : Nat} {ok : Nat → Prop} {w w' : World} {v : Value} {xs : List Int} (h : (Kd.int .i64).R 3 w B ok v xs) (hk : Rows3 w w') : (Kd.int .i64).R 3 w' B ok v xs := by
  have hb := Kd.R_bound h
  have hty := Kd.R_typed h
  refine ⟨h.1, ?_⟩
  obtain ⟨inner, ho, hr⟩ := h.2
  refine ⟨inner, own_move ho (fun k hk' => ?_), hr⟩
  obtain ⟨cells, hc⟩ := hty k hk'
  rw [hk k cells hc, hc]
theorem order_right_parts {n : Int} {l : List S33} {k : Nat} (h : order_Right.f k n l = some true) : 1 ≤ n ∧ n ≤ 10 := by
  unfold order_Right.f at h
  by_cases h1 : n < 1
  · rw [if_pos h1] at h
    cases k with
    | zero => simp [order_Right.j0] at h
    | succ k => simp [order_Right.j0] at h
  · rw [if_neg h1] at h
    by_cases h2 : n > 10
    · rw [decide_eq_true h2] at h
      cases k with
      | zero => simp [order_Right.j0] at h
      | succ k => simp [order_Right.j0] at h
    · exact ⟨by omega, by omega⟩
theorem order_right_loop {n : Int} {l : List S33} (d : Nat) : ∀ (i k : Nat), i + d = l.length → l.length < 9223372036854775807 → order_Right.l0 k n l l.length i = some true → ∀ j, i ≤ j → j < l.length → 0 ≤ (rd_T33 l j).f0 ∧ (rd_T33 l j).f0 < n ∧ 1 ≤ (rd_T33 l j).f1 ∧ (rd_T33 l j).f1 ≤ 7 ∧ 0 ≤ (rd_T33 l j).f2 := by
  induction d with
  | zero => intro i k hi _ _ j h1 h2; omega
  | succ d ih =>
    intro i k hi hl h j h1 h2
    cases k with
    | zero => simp [order_Right.l0] at h
    | succ k =>
      simp only [order_Right.l0] at h
      rw [if_pos (by omega), if_pos (by omega), if_pos (by omega)] at h
      by_cases c1 : (rd_T33 l i).f0 < 0
      · rw [if_pos c1] at h; simp at h
      rw [if_neg c1] at h
      by_cases c2 : (rd_T33 l i).f0 ≥ n
      · rw [if_pos c2] at h; simp at h
      rw [if_neg c2] at h
      by_cases c3 : (rd_T33 l i).f1 < 1
      · rw [if_pos c3] at h; simp at h
      rw [if_neg c3] at h
      by_cases c4 : (rd_T33 l i).f1 > 7
      · rw [if_pos c4] at h; simp at h
      rw [if_neg c4] at h
      by_cases c5 : (rd_T33 l i).f2 < 0
      · rw [if_pos c5] at h; simp at h
      rw [if_neg c5, wrap_succ i (by omega)] at h
      rcases Nat.lt_or_ge i j with hj | hj
      · exact ih (i + 1) k (by omega) hl h j (by omega) h2
      · obtain rfl : i = j := by omega
        exact ⟨by omega, by omega, by omega, by omega, by omega⟩
theorem order_right_all {n : Int} {l : List S33} {k : Nat} (hl : l.length < 9223372036854775807) (h : order_Right.f k n l = some true) (j : Nat) (hj : j < l.length) : 0 ≤ (rd_T33 l j).f0 ∧ (rd_T33 l j).f0 < n ∧ 1 ≤ (rd_T33 l j).f1 ∧ (rd_T33 l j).f1 ≤ 7 ∧ 0 ≤ (rd_T33 l j).f2 := by
  obtain ⟨h1, h2⟩ := order_right_parts h
  unfold order_Right.f at h
  rw [if_neg (by omega), decide_eq_false (by omega : ¬ n > 10)] at h
  cases k with
  | zero => simp [order_Right.j0] at h
  | succ k =>
    simp only [order_Right.j0] at h
    exact order_right_loop l.length 0 k (by omega) hl (by simpa using h) j (by omega) hj
def order_Clocks.f (k : Nat) (a0 : Int) (l1 : List S33) : Option (List (List Int)) := (order_Right.f k a0 l1).bind fun t => if t = true then (if 20 ≤ k then (if l1.length < k then (if l1.length < 1000000000000 then (if (l1.all fun a => decide (a.f2 < 9223372036854775808)) = true then some (crun a0.toNat l1).O else none) else none) else none) else none) else some []
theorem order_Clocks.mono : ∀ a0 a1 k, LeO (order_Clocks.f k a0 a1) (order_Clocks.f (k + 1) a0 a1) := by
  intro a0 a1 k r h
  unfold order_Clocks.f at h ⊢
  obtain ⟨t, h1, h2⟩ := Option.bind_eq_some_iff.mp h
  rw [order_Right.mono _ _ _ _ h1]
  simp only [Option.bind_some]
  by_cases ht : t = true
  · rw [if_pos ht] at h2 ⊢
    by_cases c1 : 20 ≤ k
    · rw [if_pos c1] at h2
      by_cases c2 : a1.length < k
      · rw [if_pos c2] at h2
        rw [if_pos (by omega), if_pos (by omega)]
        exact h2
      · rw [if_neg c2] at h2; simp at h2
    · rw [if_neg c1] at h2; simp at h2
  · rw [if_neg ht] at h2 ⊢
    exact h2
/-- the threads' rows: block gk holds kv; the first t of them are rows of K -/
def Kn (B gk : Nat) (w : World) (kv : List Value) (n t : Nat) (K : List (List Int)) : Prop :=
  kv.length = n ∧ w.heap[gk]? = some (.cells kv.toArray 37 (0, 0)) ∧ ∀ j, j < t → (Kd.int .i64).R 3 w B (fun _ => True) (kv.getD j (.slice none 0 0)) (K.getD j [])
theorem Kn.next {B gk n t : Nat} {w w1 : World} {kv : List Value} {K : List (List Int)} (h : Kn B gk w kv n t K) (hb : w1.heap[gk]? = w.heap[gk]?) (hr : Rows3 w w1) : Kn B gk w1 kv n t K := ⟨h.1, hb.trans h.2.1, fun j hj => row3 (h.2.2 j hj) hr⟩
theorem getD_set (kv : List Value) (t j : Nat) (v z : Value) (ht : t < kv.length) : (kv.set t v).getD j z = if j = t then v else kv.getD j z := by
  simp only [List.getD_eq_getElem?_getD]
  rw [List.getElem?_set]
  by_cases h : t = j
  · subst h; simp [ht]
  · rw [if_neg h, if_neg (fun e => h e.symm)]
theorem Kn.put {B gk n : Nat} {w : World} {kv : List Value} {K : List (List Int)} {s : Nat} (h : Kn B gk w kv n s K) (t : Nat) (ht : t < n) (v : Value) (c : List Int) (s' : Nat) (hs : s' = s ∨ (t = s ∧ s' = s + 1)) (hc : (Kd.int .i64).R 3 w B (fun _ => True) v c) (K' : List (List Int)) (hK : ∀ j, j < s' → K'.getD j [] = if j = t then c else K.getD j []) :
    Kn B gk (w.setCell ⟨gk, t, none⟩ v) (kv.set t v) n s' K' := by
  have hr : Rows3 w (w.setCell ⟨gk, t, none⟩ v) := Rows3.set h.2.1 (by decide) t v
  refine ⟨by rw [List.length_set]; exact h.1, ?_, fun j hj => ?_⟩
  · rw [blk_set h.2.1]; simp
  · rw [getD_set _ _ _ _ _ (by rw [h.1]; exact ht), hK j hj]
    by_cases e : j = t
    · rw [if_pos e, if_pos e]; exact row3 hc hr
    · rw [if_neg e, if_neg e]; exact row3 (h.2.2 j (by omega)) hr
theorem hb_size {w w' : World} (h : Below w.heap.size w w') : w.heap.size ≤ w'.heap.size := h.size
theorem madeCells_one (z : Value) (n : Nat) : madeCells #[z] n = (List.replicate n z).toArray := by
  apply Array.ext
  · simp [madeCells]
  · intro i h1 h2
    simp [madeCells, Nat.mod_one]
theorem Kn.cell {B gk n t : Nat} {w : World} {kv : List Value} {K : List (List Int)} (h : Kn B gk w kv n t K) (j : Nat) (hj : j < n) : w.cell? ⟨gk, j, none⟩ = some (kv.getD j (.slice none 0 0)) := by
  rw [blk_cell h.2.1]
  have := h.1
  simp [List.getD_eq_getElem?_getD, this, hj]
/-- what is known in the second loop -/
def Iv (w0 : World) (gk gm Bo n : Nat) (w : World) (kv : List Value) (mv : Int → Option Value) (ov : Value) (i : Nat) (s : CS) : Prop :=
  Kn w0.heap.size gk w kv n n s.K ∧ MapIs Try.prog w gm i mv ∧ (∀ x v, mv x = some v → ∃ c, s.M x = some c ∧ (Kd.int .i64).R 3 w w0.heap.size (fun _ => True) v c) ∧ (∀ x, mv x = none → s.M x = none)
    ∧ (Kd.slice 3 (Kd.int .i64)).S 37 w Bo (fun _ => True) ov s.O ∧ (s.O = [] → ov = .slice none 0 0) ∧ Below w0.heap.size w0 w ∧ Bo ≤ w.heap.size
theorem Iv.start {w0 wr : World} {gk n : Nat} {kv : List Value} (hK : Kn w0.heap.size gk wr kv n n (List.replicate n (List.replicate n 0))) (hB : Below w0.heap.size w0 wr) : Iv w0 gk wr.heap.size (wr.heap.size + 1) n (wr.alloc (.map #[] 0)) kv (fun _ => none) (.slice none 0 0) 0 (crun n []) := by
  refine ⟨hK.next (Below.block (below_alloc (Below.refl wr.heap.size wr) _) _ (lt_of_blk hK.2.1)) (Rows3.below (below_alloc (Below.refl _ _) _)), MapIs.made wr, ?_, ?_, Kd.S_nil _ _ _ _ _, fun _ => rfl, below_alloc hB _, ?_⟩
  · intro x v h; simp at h
  · intro x _; rfl
  · show wr.heap.size + 1 ≤ (wr.heap.push _).size
    rw [Array.size_push]
    exact Nat.le_refl _
theorem Iv.next {w0 w w1 : World} {gk gm Bo n i : Nat} {kv : List Value} {mv : Int → Option Value} {ov : Value} {s : CS} (h : Iv w0 gk gm Bo n w kv mv ov i s) (hb : Below w.heap.size w w1) : Iv w0 gk gm Bo n w1 kv mv ov i s := by
  obtain ⟨h1, h2, h3, h4, h5, h6, h7, h8⟩ := h
  have hr := Rows3.below hb
  have hs := hb.size
  have h70 := h7.size
  refine ⟨h1.next (hb.block _ (lt_of_blk h1.2.1)) hr, h2.move (hb.block _ h2.lt), fun x v hx => ?_, h4, Kd.S_below h5 hb, h6, h7.trans (hb.mono (by omega)), by omega⟩
  obtain ⟨c, e1, e2⟩ := h3 x v hx
  exact ⟨c, e1, row3 e2 hr⟩
def Av (W : World) (ga : Nat) (a : S33) : Prop := W.heap[ga]? = some (.cells #[.int .i64 a.f0, .int .i64 a.f1, .int .i64 a.f2, .int .u64 a.f3, .int .u64 a.f4] 33 (0, 0))
theorem Av.c0 {W : World} {ga : Nat} {a : S33} (h : Av W ga a) : W.cell? ⟨ga, 0, none⟩ = some (.int .i64 a.f0) := (blk_cell h 0).trans rfl
theorem Av.c1 {W : World} {ga : Nat} {a : S33} (h : Av W ga a) : W.cell? ⟨ga, 1, none⟩ = some (.int .i64 a.f1) := (blk_cell h 1).trans rfl
theorem Av.c2 {W : World} {ga : Nat} {a : S33} (h : Av W ga a) : W.cell? ⟨ga, 2, none⟩ = some (.int .i64 a.f2) := (blk_cell h 2).trans rfl
def Sv (w0 : World) (gk gm Bo n : Nat) (kv : List Value) (mv : Int → Option Value) (ov : Value) (i : Nat) (s : CS) (ga : Nat) (a : S33) (W : World) : Prop := Iv w0 gk gm Bo n W kv mv ov i s ∧ Av W ga a
theorem Sv.next {w0 w w1 : World} {gk gm Bo n i ga : Nat} {kv : List Value} {mv : Int → Option Value} {ov : Value} {s : CS} {a : S33} (h : Sv w0 gk gm Bo n kv mv ov i s ga a w) (hb : Below w.heap.size w w1) : Sv w0 gk gm Bo n kv mv ov i s ga a w1 := ⟨h.1.next hb, (hb.block _ (lt_of_blk h.2)).trans h.2⟩
theorem draw_below (w : World) : Below w.heap.size w w.drew := (Drawn0.mk ⟨1, rfl⟩ : Drawn0 w (w.drewN 1)).below
theorem key_wf {x : Int} (h0 : 0 ≤ x) (h1 : x < 9223372036854775808) : (Lit.int .i64 x).wf = true := by
  have e1 : IntKind.i64.min = -9223372036854775808 := by decide
  have e2 : IntKind.i64.max = 9223372036854775807 := by decide
  simp only [Lit.wf, e1, e2, Bool.and_eq_true, decide_eq_true_eq]
  omega
theorem Iv.mono {w0 w : World} {gk gm Bo n i : Nat} {kv : List Value} {mv : Int → Option Value} {ov : Value} {s : CS} (h : Iv w0 gk gm Bo n w kv mv ov i s) : Iv w0 gk gm Bo n w kv mv ov (i + 1) s := ⟨h.1, h.2.1.mono (by omega), h.2.2⟩
/-- behind m[x] = v, a row of c -/
theorem Iv.put {w0 w w1 : World} {gk gm Bo n i : Nat} {kv : List Value} {mv : Int → Option Value} {ov v : Value} {s : CS} {x : Int} {c : List Int} (h : Iv w0 gk gm Bo n w kv mv ov i s) (hm : MapIs Try.prog w1 gm (i + 1) (fun y => if y = x then some v else mv y)) (hg : w.grownBy w1 (some gm)) (hBo : gm < Bo) (h0 : w0.heap.size ≤ gm) (hv : (Kd.int .i64).R 3 w w0.heap.size (fun _ => True) v c) : Iv w0 gk gm Bo n w1 kv (fun y => if y = x then some v else mv y) ov (i + 1) ⟨s.K, fun y => if y = x then some c else s.M y, s.O⟩ := by
  obtain ⟨h1, h2, h3', h4, h5, h6, h7, h8⟩ := h
  obtain ⟨es, clock, hmb⟩ : ∃ es clock, w.heap[gm]? = some (.map es clock) := by
    obtain ⟨D, ⟨es, clock, hb, _⟩, _⟩ := h2
    exact ⟨es, clock, hb⟩
  have h3 : ∀ cells : Array Value, w.heap[gm]? ≠ some (.cells cells 3 (0, 0)) := fun cells e => by rw [hmb] at e; cases e
  have hne : gk ≠ gm := fun e => by have := h1.2.1; rw [e, hmb] at this; cases this
  have hr : Rows3 w w1 := Rows3.grown hg (fun k e cells => by cases e; exact h3 cells)
  refine ⟨h1.next (hg.block _ (lt_of_blk h1.2.1) (by simpa using hne)) hr, hm, fun y u hy => ?_, fun y hy => ?_, ?_, h6, ?_, ?_⟩
  · by_cases e : y = x
    · simp only [if_pos e] at hy ⊢
      cases hy
      exact ⟨c, rfl, row3 hv hr⟩
    · simp only [if_neg e] at hy ⊢
      obtain ⟨c', e1, e2⟩ := h3' y u hy
      exact ⟨c', e1, row3 e2 hr⟩
  · by_cases e : y = x
    · simp only [if_pos e] at hy; cases hy
    · simp only [if_neg e] at hy ⊢; exact h4 y hy
  · exact Kd.S_mono (Kd.S_grown (Kd.S_bound h5) hg (fun k hk e => by cases e; have := hk.2.1; omega)) (fun _ _ => trivial)
  · exact h7.trans ⟨hg.os, hg.tape, hg.output, hg.size, fun k hk => hg.block k (by have := h7.size; omega) (by intro e; cases e; omega)⟩
  · have := hg.size; omega
theorem map_ne_cells {P : Program} {w : World} {b n : Nat} {m : Int → Option Value} (h : MapIs P w b n m) {g t : Nat} {cells : Array Value} {fr : Nat × Nat} (hg : w.heap[g]? = some (.cells cells t fr)) : g ≠ b := by
  obtain ⟨D, ⟨es, clock, hb, _⟩, _⟩ := h
  rintro rfl
  rw [hb] at hg
  cases hg
/-- behind knows[t] = v, a row of c -/
theorem Iv.know {w0 w : World} {gk gm Bo n i t : Nat} {kv : List Value} {mv : Int → Option Value} {ov v : Value} {s : CS} {c : List Int} (h : Iv w0 gk gm Bo n w kv mv ov i s) (ht : t < n) (hKl : s.K.length = n) (hBo : gk < Bo) (h0 : w0.heap.size ≤ gk) (hv : (Kd.int .i64).R 3 w w0.heap.size (fun _ => True) v c) :
    Iv w0 gk gm Bo n (w.setCell ⟨gk, t, none⟩ v) (kv.set t v) mv ov i ⟨s.K.set t c, s.M, s.O⟩ := by
  obtain ⟨h1, h2, h3, h4, h5, h6, h7, h8⟩ := h
  have hr : Rows3 w (w.setCell ⟨gk, t, none⟩ v) := Rows3.set h1.2.1 (by decide) t v
  have hgm : gm ≠ gk := fun e => map_ne_cells h2 h1.2.1 e.symm
  refine ⟨h1.put t ht v c n (.inl rfl) hv _ (fun j hj => ?_), h2.move (Below.heap_setCell w ⟨gk, t, none⟩ v gm hgm), fun x u hx => ?_, h4, ?_, h6, h7.setCell h0 _, ?_⟩
  · simp only [List.getD_eq_getElem?_getD]
    rw [List.getElem?_set]
    by_cases e : t = j
    · subst e; simp [hKl, ht]
    · rw [if_neg e, if_neg (fun e2 => e e2.symm)]
  · obtain ⟨c', e1, e2⟩ := h3 x u hx
    exact ⟨c', e1, row3 e2 hr⟩
  · exact Kd.S_mono (Kd.S_far (Kd.S_bound h5) (fun k hk e => by have := hk.2.1; have e' : k = gk := e; omega) v) (fun _ _ => trivial)
  · exact Nat.le_trans h8 ((Below.refl gk w).setCell (p := ⟨gk, t, none⟩) (Nat.le_refl _) v).size
/-- behind out = append(out, ..) -/
theorem Iv.pushed {w0 w w1 : World} {gk gm Bo n i : Nat} {kv : List Value} {mv : Int → Option Value} {ov v1 : Value} {s : CS} {c : List Int} (h : Iv w0 gk gm Bo n w kv mv ov i s) (hg : w.grownBy w1 ov.ownBlock) (hR : (Kd.slice 3 (Kd.int .i64)).S 37 w1 Bo (fun _ => True) v1 (s.O ++ [c])) (hgk : gk < Bo) (hgm : gm < Bo) (h0 : w0.heap.size ≤ Bo) :
    Iv w0 gk gm Bo n w1 kv mv v1 i ⟨s.K, s.M, s.O ++ [c]⟩ := by
  obtain ⟨h1, h2, h3, h4, h5, h6, h7, h8⟩ := h
  have hown : ∀ k, ov.ownBlock = some k → Bo ≤ k := fun k hk => ((Kd.R_bound (Kd.S_R h5)).1 k hk).2.1
  have hr : Rows3 w w1 := Rows3.grown hg (fun k e cells e2 => Kd.R_ne (Kd.S_R h5) e2 (by decide) e.symm)
  refine ⟨h1.next (hg.block _ (lt_of_blk h1.2.1) (fun e => by have := hown gk e.symm; omega)) hr, h2.move (hg.block _ h2.lt (fun e => by have := hown gm e.symm; omega)), fun x u hx => ?_, h4, hR, fun e => by simp at e, ?_, ?_⟩
  · obtain ⟨c', e1, e2⟩ := h3 x u hx
    exact ⟨c', e1, row3 e2 hr⟩
  · exact pw_below_grown h7 _ (by have := h7.size; omega) hg (fun k hk => by have := hown k hk; omega)
  · have := hg.size; omega
theorem tick_len (c : List Int) (i : Int) : (tick c i).length ≤ 10 := by
  unfold tick
  split
  · rename_i h
    rw [List.length_set]
    exact (right_len h.1).2
  · simp
theorem join_len (a b : List Int) : (join a b).length ≤ 10 := by
  unfold join
  split
  · rename_i h
    obtain ⟨h1, h2, h3⟩ := both_parts h
    rw [joinZ_len h3]
    exact (right_len h1).2
  · simp
theorem clk1_len (s : CS) (a : S33) : (clk1 s a).length ≤ 10 := by
  unfold clk1
  split
  · exact join_len _ _
  · exact tick_len _ _
set_option maxHeartbeats 8000000 in
set_option maxRecDepth 100000 in
theorem order_Clocks.calls0 (k : Nat) (a0 : Int) (A1 : Option Addr) (c1 : Nat) (l1 : List S33) (r : List (List Int)) (w : World) (hr1 : Kd.C k33 w A1 l1.length l1) (hc1 : l1.length ≤ c1) (h : order_Clocks.f k a0 l1 = some r) :
    Calls Try.prog 12 #[.int .i64 a0, .slice A1 l1.length c1] w fun e w' => ∃ v0_ : Value, e = .returned v0_ ∧ Kd.S (Kd.slice 3 (Kd.int .i64)) 37 w' w.heap.size (fun _ => True) v0_ r ∧ Below w.heap.size w w' ∧ (r = [] → v0_ = .slice none 0 0) := by
  have hu33 := Try.underlying33
  have HR1 := Aside0.mk hr1
  have HC1 := Aside0.mk hc1
  clear hr1 hc1
  have HB := Aside0.mk (Below.refl w.heap.size w)
  have H := h
  unfold order_Clocks.f at H
  clear h
  replace H := Option.bind_eq_some_iff.mp H
  obtain ⟨t, A30, H⟩ := H
  have A3 := Aside0.mk A30
  clear A30
  by_cases c4 : t = true
  · subst c4
    rw [if_pos rfl] at H
    have k1 : 20 ≤ k := by
      by_cases k1 : 20 ≤ k
      · exact k1
      · rw [if_neg k1] at H; exact absurd H (by simp)
    have k2 : l1.length < k := by
      by_cases k2 : l1.length < k
      · exact k2
      · rw [if_pos k1, if_neg k2] at H; exact absurd H (by simp)
    have k3 : l1.length < 1000000000000 := by
      by_cases k3 : l1.length < 1000000000000
      · exact k3
      · rw [if_pos k1, if_pos k2, if_neg k3] at H; exact absurd H (by simp)
    have k4 : (l1.all fun a => decide (a.f2 < 9223372036854775808)) = true := by
      by_cases k4 : (l1.all fun a => decide (a.f2 < 9223372036854775808)) = true
      · exact k4
      · rw [if_pos k1, if_pos k2, if_pos k3, if_neg k4] at H; exact absurd H (by simp)
    rw [if_pos k1, if_pos k2, if_pos k3, if_pos k4] at H
    obtain rfl := Option.some.inj H
    clear H
    obtain ⟨n1, n2⟩ := order_right_parts A3.out
    obtain ⟨n, rfl⟩ : ∃ n : Nat, a0 = (n : Int) := ⟨a0.toNat, by omega⟩
    have K1 := Aside0.mk k1
    have K2 := Aside0.mk k2
    have K3 := Aside0.mk k3
    have K4 := Aside0.mk k4
    clear k1 k2 k3 k4
    have hmk := print_make_int (P := Try.prog) 34 37 (.slice none 0 0) 24 Try.underlying34 (by kernel_rfl) rfl (by decide) (n : Int) (by omega) (by omega)
    simp only [Int.toNat_natCast] at hmk
    go_enter Try.func12, Try.ntmps12
    go_wp2_with (first | (go_at_call 21; (with_reducible refine (order_Right.calls k (n : Int) _ _ l1 true _ ?side1 ?side2 A3.out).mono ?_); (case side1 => exact HR1.out); (case side2 => exact HC1.out); rintro e w0 ⟨rfl, hb0⟩; replace HB := Aside0.mk (HB.out.trans (hb0.mono (Nat.le_refl _))); clear hb0))
    have hn0 := hb_size HB.out
    have B0 := Aside0.mk hn0
    clear hn0 hmk
    go_loopg [21] (n + 1) (fun kq v21 wr => ∃ (t : Nat) (kv : List Value), t ≤ n ∧ n < t + kq ∧ v21 = .int .i64 (t : Int) ∧ Aside0 (Kn w.heap.size w0.heap.size wr kv n t (List.replicate n (List.replicate n 0))) ∧ Aside0 (Below w.heap.size w wr))
    case atStart => exact ⟨0, List.replicate n (.slice none 0 0), by omega, by omega, rfl, ⟨by simp, by rw [blk_new]; simp [madeCells_one], fun j hj => absurd hj (by omega)⟩, ⟨below_alloc HB.out _⟩⟩
    case round =>
      obtain ⟨t, kv, ht, htk, rfl, HK, HBr⟩ := hrel
      cases gk with
      | zero => omega
      | succ g =>
      by_cases hlt : t < n
      · have c1b : decide ((t : Int) < (n : Int)) = true := decide_eq_true (by omega)
        have q1 : (0 : Int) ≤ (t : Int) := by omega
        have q2 : (t : Int) < (n : Int) := by omega
        have HNW : tick_New.f (n : Int) = some (List.replicate n 0) := by
          unfold tick_New.f
          rw [if_neg (by omega), if_neg (by omega), if_pos (by omega), if_pos (by omega)]
          simp
        go_wp2_with (first | (go_at_call 34; (with_reducible refine (tick_New.calls (n : Int) _ _ HNW).mono ?_); rintro e w1 ⟨v, rfl, hv, hb⟩; obtain ⟨Av, cv, rfl⟩ := Kd.R_slice hv; have HK1 := HK.out.next (hb.block _ (lt_of_blk HK.out.2.1)) (Rows3.below hb); have hm := HK1.cell t hlt; have hmf := blk_frozen HK1.2.1 t; have HK1' := Aside0.mk HK1; clear HK1))
        go_roundg g
        case measure => omega
        case rel =>
          have hsz := hb_size HBr.out
          have hlo := Kd.R_lower hv hsz
          simp only [List.length_replicate] at hlo
          refine ⟨t + 1, kv.set t (.slice Av n cv), by omega, by omega, ?_, ⟨?_⟩, ⟨?_⟩⟩
          · simp
          · refine HK1'.out.put t hlt _ (List.replicate n 0) (t + 1) (.inr ⟨rfl, rfl⟩) hlo _ (fun j hj => ?_)
            simp only [List.getD_eq_getElem?_getD]
            by_cases e : j = t
            · rw [if_pos e]; simp [e, hlt]
            · rw [if_neg e]
          · exact (HBr.out.trans (hb.mono hsz)).setCell B0.out _
      · have c1b : decide ((t : Int) < (n : Int)) = false := decide_eq_false (by omega)
        obtain rfl : n = t := by omega
        have hmm : ∀ W : World, (Instr.makeMap 52 none).run Try.prog W = .ok (.map (some W.heap.size)) (W.alloc (.map #[] 0)) := fun _ => rfl
        go_wp2
        clear hmm
        have BM := Aside0.mk (hb_size HBr.out)
        have HIV := Aside0.mk (Iv.start HK.out HBr.out)
        have HG0 : Aside0 (w0.heap.size < wr.heap.size + 1) := ⟨by have := lt_of_blk HK.out.2.1; omega⟩
        have BO : Aside0 (w.heap.size ≤ wr.heap.size + 1) := ⟨by have := BM.out; omega⟩
        generalize hgm : wr.heap.size = gm at HIV BM BO HG0 ⊢
        obtain ⟨Bo, hBo⟩ : ∃ Bo, Bo = gm + 1 := ⟨_, rfl⟩
        rw [← hBo] at HIV BO HG0
        have BG : Aside0 (gm < Bo) := ⟨by omega⟩
        clear hBo
        go_loopg [8, 33] (l1.length + 1) (fun kq v8 v33 wc => ∃ (i : Nat) (kv : List Value) (mv : Int → Option Value), i ≤ l1.length ∧ l1.length < i + kq ∧ v33 = .int .i64 (i : Int) ∧ Aside0 (Iv w w0.heap.size gm Bo n wc kv mv v8 i (crun n (l1.take i))))
        case atStart => exact ⟨0, kv, fun _ => none, by omega, by omega, rfl, HIV⟩
        case round =>
          rename_i wm _ _ _ _
          clear HIV HK HBr htk ht c1b hlt
          obtain ⟨i, kv, mv, hi, hik, rfl, HI⟩ := hrel
          cases gk with
          | zero => omega
          | succ g =>
          by_cases hlt : i < l1.length
          · have c1b : decide ((i : Int) < (l1.length : Int)) = true := decide_eq_true (by omega)
            have q1 : (0 : Int) ≤ (i : Int) := by omega
            have q2 : (i : Int) < (l1.length : Int) := by omega
            obtain ⟨p1, p2, p3, p4, p5⟩ := order_right_all (by have := K3.out; omega) A3.out i hlt
            have p6 : (rd_T33 l1 i).f2 < 9223372036854775808 := by
              have := List.all_eq_true.1 K4.out l1[i] (List.getElem_mem hlt)
              simpa [rd_T33, List.getD_eq_getElem?_getD, hlt] using this
            have hrun := crun_succ n l1 i hlt
            have ea : l1[i] = rd_T33 l1 i := by simp [rd_T33, List.getD_eq_getElem?_getD, hlt]
            rw [ea] at hrun
            obtain ⟨ad, e101, hx0, hx1, hx2, hx3, hx4⟩ := at_T33 HR1.out (i : Int) q1 q2
            cases e101
            have hbw := HI.out.2.2.2.2.2.2.1
            replace hx0 := (hbw.cell (World.block_lt_of_cell? w _ hx0)).trans hx0
            replace hx1 := (hbw.cell (World.block_lt_of_cell? w _ hx1)).trans hx1
            replace hx2 := (hbw.cell (World.block_lt_of_cell? w _ hx2)).trans hx2
            replace hx3 := (hbw.cell (World.block_lt_of_cell? w _ hx3)).trans hx3
            replace hx4 := (hbw.cell (World.block_lt_of_cell? w _ hx4)).trans hx4
            simp only [Int.toNat_natCast] at hx0 hx1 hx2 hx3 hx4
            clear ea hbw
            generalize rd_T33 l1 (i : Int) = a at *
            go_upto_region 14 with (fail)
            have HKL := Aside0.mk (crun_K n (l1.take i))
            have HOL : Aside0 ((crun n (l1.take i)).O.length = i) := ⟨by rw [crun_O, List.length_take]; omega⟩
            generalize crun n (l1.take i) = s at *
            have HS := Aside0.mk (⟨HI.out.next (below_alloc (Below.refl _ _) _), blk_new _ _⟩ : Sv w w0.heap.size gm Bo n kv mv u8 i s wr.heap.size a (wr.alloc (.cells #[.int .i64 a.f0, .int .i64 a.f1, .int .i64 a.f2, .int .u64 a.f3, .int .u64 a.f4] 33)))
            have HT : Aside0 (a.f0.toNat < n) := ⟨by omega⟩
            obtain ⟨Ak, ck, hkv, hck, hCk⟩ := Kd.R_reads (HI.out.1.2.2 a.f0.toNat HT.out)
            have HKV := Aside0.mk hkv
            have HCK := Aside0.mk hck
            clear hkv hck hCk hx0 hx1 hx2 hx3 hx4
            have HRUN := Aside0.mk hrun
            clear hrun HI
            refine start_ (n := 9) (S := Sv w w0.heap.size gm Bo n kv mv u8 i s wr.heap.size a) (ds := []) #[false, false, false, false, false, false, false, false, false] (by kernel_rfl) rfl rfl (Sv.next HS.out (draw_below _)) (fun hS => ?_)
            refine pure_ (i := 0) (N := some 37) (v := ?_) (a' := ?_) #[true, false, false, false, false, false, false, false, false] rfl rfl (by kernel_rfl) (fun _ _ _ h => h) (Or.inl ⟨by rfl, ?_⟩) ?_ ?_
            rotate_left
            · intro w'
              go_simp
              try (with_reducible rfl)
            rotate_left
            · simp only [Act.put, List.setIfInBounds_toArray, List.set_cons_zero, List.set_cons_succ]
              rfl
            refine pure_ (i := 1) (N := some 38) (v := ?_) (a' := ?_) #[true, true, false, false, false, false, false, false, false] rfl rfl (by kernel_rfl) (fun _ _ _ h => h) (Or.inl ⟨by rfl, ?_⟩) ?_ ?_
            rotate_left
            · intro w'
              go_simp
              try (with_reducible rfl)
            rotate_left
            · simp only [Act.put, List.setIfInBounds_toArray, List.set_cons_zero, List.set_cons_succ]
              rfl
            refine take_ (i := 2) (N := some 39) (v := ?_) (a' := ?_) #[true, true, true, false, false, false, false, false, false] rfl rfl (by kernel_rfl) (fun _ _ _ h => h) (Or.inl ⟨by rfl, ?_⟩) hS ?_ ?_
            rotate_left
            · intro w' hw; have hc := hw.2.c0
              go_simp
              try (with_reducible rfl)
            rotate_left
            · simp only [Act.put, List.setIfInBounds_toArray, List.set_cons_zero, List.set_cons_succ]
              rfl
            refine pure_ (i := 3) (N := some 40) (v := ?_) (a' := ?_) #[true, true, true, true, false, false, false, false, false] rfl rfl (by kernel_rfl) (fun _ _ _ h => h) (Or.inl ⟨by rfl, ?_⟩) ?_ ?_
            rotate_left
            · intro w'
              go_simp
              try (with_reducible rfl)
            rotate_left
            · simp only [Act.put, List.setIfInBounds_toArray, List.set_cons_zero, List.set_cons_succ]
              rfl
            refine take_ (i := 4) (N := some 41) (v := ?_) (a' := ?_) #[true, true, true, true, true, false, false, false, false] rfl rfl (by kernel_rfl) (fun _ _ _ h => h) (Or.inl ⟨by rfl, ?_⟩) hS ?_ ?_
            rotate_left
            · intro w' hw; have hc := hw.1.1.cell a.f0.toNat HT.out; rw [HKV.out] at hc
              go_simp
              try (with_reducible rfl)
            rotate_left
            · simp only [Act.put, List.setIfInBounds_toArray, List.set_cons_zero, List.set_cons_succ]
              rfl
            refine pure_ (i := 5) (N := some 42) (v := ?_) (a' := ?_) #[true, true, true, true, true, true, false, false, false] rfl rfl (by kernel_rfl) (fun _ _ _ h => h) (Or.inl ⟨by rfl, ?_⟩) ?_ ?_
            rotate_left
            · intro w'
              go_simp
              try (with_reducible rfl)
            rotate_left
            · simp only [Act.put, List.setIfInBounds_toArray, List.set_cons_zero, List.set_cons_succ]
              rfl
            refine take_ (i := 6) (N := some 43) (v := ?_) (a' := ?_) #[true, true, true, true, true, true, true, false, false] rfl rfl (by kernel_rfl) (fun _ _ _ h => h) (Or.inl ⟨by rfl, ?_⟩) hS ?_ ?_
            rotate_left
            · intro w' hw; have hc := hw.2.c0
              go_simp
              try (with_reducible rfl)
            rotate_left
            · simp only [Act.put, List.setIfInBounds_toArray, List.set_cons_zero, List.set_cons_succ]
              rfl
            refine one_ (i := 7) (N := some 44) #[true, true, true, true, true, true, true, true, false] rfl rfl (by kernel_rfl) (by simp) (fun K hK => ?_)
            refine goes_ Try.func35 (by kernel_rfl) rfl #[.slice Ak (s.K.getD a.f0.toNat []).length ck, .int .i64 a.f0] (by rfl) rfl rfl (by (try simp only [List.map_toArray, List.map_cons, List.map_nil]); first | done | rfl) ?_
            refine (tick_Tick.calls k Ak ck (s.K.getD a.f0.toNat []) a.f0 _ _ (Kd.R_reads' (HKV.out ▸ hS.1.1.2.2 a.f0.toNat HT.out)).2.2 HCK.out (ttick _ _ k K1.out)).mono ?_
            rintro e w' ⟨v, rfl, hv, hbx⟩
            refine ⟨_, rfl, ?_⟩
            replace hS := Sv.next hS hbx
            refine hK.out _ _ hS (fun _ => ?_)
            clear hK K
            refine norm_ (a' := ?_) ?_ ?_
            rotate_left
            · simp only [Act.put, List.setIfInBounds_toArray, List.set_cons_zero, List.set_cons_succ]
              rfl
            refine pure_ (i := 8) (N := some 11) (v := ?_) (a' := ?_) #[true, true, true, true, true, true, true, true, true] rfl rfl (by kernel_rfl) (fun _ _ _ h => h) (Or.inl ⟨by rfl, ?_⟩) ?_ ?_
            rotate_left
            · intro w'
              go_simp
              try (with_reducible rfl)
            rotate_left
            · simp only [Act.put, List.setIfInBounds_toArray, List.set_cons_zero, List.set_cons_succ]
              rfl
            refine done_ (by kernel_rfl) ?_
            have hlook := fun W : World => (show (zeroValue 37).run Try.prog W = .ok (.slice none 0 0) W from rfl)
            have hwf := key_wf p5 p6
            have HVB : Aside0 ((Kd.int .i64).R 3 w' w.heap.size (fun _ => True) v (tick (s.K.getD a.f0.toNat []) a.f0)) := ⟨Kd.R_lower hv (hb_size (HS.out.1.next (draw_below _)).2.2.2.2.2.2.1)⟩
            obtain ⟨tk, htk⟩ : ∃ tk, tk = tick (s.K.getD a.f0.toNat []) a.f0 := ⟨_, rfl⟩
            rw [← htk] at HVB
            have HTK := Aside0.mk htk
            clear htk
            obtain ⟨Av_, cv_, hve⟩ := Kd.R_slice HVB.out
            subst hve
            have HL := Aside0.mk hlook
            have HW := Aside0.mk hwf
            clear hv hbx hlook hwf
            go_step
            go_step
            go_step
            go_cut [11] (fun v11 wc => Aside0 (Sv w w0.heap.size gm Bo n kv mv u8 i s wr.heap.size a wc) ∧ Aside0 ((Kd.int .i64).R 3 wc w.heap.size (fun _ => True) v11 (clk1 s a)))
            case first =>
              have hSv := hS
              have hc1 := hSv.2.c1
              have hc2 := hSv.2.c2
              cases hm : mv a.f2 with
              | none =>
                have hM := hSv.1.2.2.2.1 a.f2 hm
                go_wp2_with (first | ((with_reducible refine gate_ (.lookup 52 (.tmp 46) (.tmp 48) true) rfl ?_); refine MapIs.look_ok _ rfl (.tmp 46) (.tmp 48) 52 37 rfl Try.underlying3 Try.underlying52 (HL.out _) gm i mv rfl hSv.1.2.1 a.f2 rfl HW.out ?_; rw [hm]))
                go_meet
                exact ⟨⟨hS⟩, ⟨by have e : clk1 s a = tk := (by rw [HTK.out]; simp [clk1, hM]); rw [e]; exact HVB.out⟩⟩
              | some vv =>
                obtain ⟨c, e1, e2⟩ := hSv.1.2.2.1 a.f2 vv hm
                obtain ⟨Ac, cc, rfl⟩ := Kd.R_slice e2
                cases ha : atomB a.f1 with
                | false =>
                  go_wp2_with (first | ((with_reducible refine gate_ (.lookup 52 (.tmp 46) (.tmp 48) true) rfl ?_); refine MapIs.look_ok _ rfl (.tmp 46) (.tmp 48) 52 37 rfl Try.underlying3 Try.underlying52 (HL.out _) gm i mv rfl hSv.1.2.1 a.f2 rfl HW.out ?_; rw [hm]) | (go_at_call 36; (with_reducible refine (order_atomic.calls a.f1 false _ (by rw [atom_is, ha])).mono ?_); rintro e w1 ⟨rfl, ⟨nd, rfl⟩⟩))
                  go_meet
                  exact ⟨⟨hS.next (pw_below_drewN (Below.refl _ _) nd)⟩, ⟨by have e : clk1 s a = tk := (by rw [HTK.out]; simp [clk1, ha]); rw [e]; exact Kd.R_drewN HVB.out _⟩⟩
                | true =>
                  cases hb : rdB a.f1 with
                  | false =>
                    go_wp2_with (first | ((with_reducible refine gate_ (.lookup 52 (.tmp 46) (.tmp 48) true) rfl ?_); refine MapIs.look_ok _ rfl (.tmp 46) (.tmp 48) 52 37 rfl Try.underlying3 Try.underlying52 (HL.out _) gm i mv rfl hSv.1.2.1 a.f2 rfl HW.out ?_; rw [hm]) | (go_at_call 36; (with_reducible refine (order_atomic.calls a.f1 true _ (by rw [atom_is, ha])).mono ?_); rintro e w1 ⟨rfl, ⟨nd, rfl⟩⟩) | (go_at_call 26; (with_reducible refine (order_Reads.calls a.f1 false _ (by rw [rd_is, hb])).mono ?_); rintro e w1 ⟨rfl, ⟨nd2, rfl⟩⟩))
                    go_meet
                    exact ⟨⟨hS.next (pw_below_drewN (Below.refl _ _) (nd + nd2))⟩, ⟨by have e : clk1 s a = tk := (by rw [HTK.out]; simp [clk1, hb]); rw [e]; exact Kd.R_drewN HVB.out _⟩⟩
                  | true =>
                    go_wp2_with (first | ((with_reducible refine gate_ (.lookup 52 (.tmp 46) (.tmp 48) true) rfl ?_); refine MapIs.look_ok _ rfl (.tmp 46) (.tmp 48) 52 37 rfl Try.underlying3 Try.underlying52 (HL.out _) gm i mv rfl hSv.1.2.1 a.f2 rfl HW.out ?_; rw [hm]) | (go_at_call 36; (with_reducible refine (order_atomic.calls a.f1 true _ (by rw [atom_is, ha])).mono ?_); rintro e w1 ⟨rfl, ⟨nd, rfl⟩⟩) | (go_at_call 26; (with_reducible refine (order_Reads.calls a.f1 true _ (by rw [rd_is, hb])).mono ?_); rintro e w1 ⟨rfl, ⟨nd2, rfl⟩⟩) | (go_at_call 37; (with_reducible refine (tick_Join.calls k _ _ tk _ _ c _ _ ?side1 ?side2 ?side3 ?side4 (tjoin tk c k K1.out)).mono ?_); (case side1 => exact (Kd.R_reads' (by (with_reducible repeat apply Kd.R_drewN); exact HVB.out)).2.2); (case side2 => exact (Kd.R_reads' HVB.out).2.1); (case side3 => exact (Kd.R_reads' (by (with_reducible repeat apply Kd.R_drewN); exact e2)).2.2); (case side4 => exact (Kd.R_reads' e2).2.1); rintro e w3 ⟨vj, rfl, hj, hbj⟩))
                    go_meet
                    exact ⟨⟨hS.next ((pw_below_drewN (Below.refl _ _) (nd + nd2)).trans hbj)⟩, ⟨by have e : clk1 s a = join tk c := (by rw [HTK.out]; simp [clk1, ha, hb, e1]); rw [e]; exact Kd.R_lower hj (hb_size (hSv.1.next (pw_below_drewN (Below.refl _ _) (nd + nd2))).2.2.2.2.2.2.1)⟩⟩
            case rest =>
              clear HVB hS
              obtain ⟨hS2, hv2⟩ := hcut
              generalize hcl : clk1 s a = c at hv2
              have HCL := Aside0.mk hcl
              clear hcl
              obtain ⟨Ac2, cc2, he2⟩ := Kd.R_slice hv2.out
              subst he2
              go_step
              go_step
              go_cut [] (fun wc => ∃ mv2 : Int → Option Value, Aside0 (Sv w w0.heap.size gm Bo n kv mv2 u8 (i + 1) ⟨s.K, clkM s a c, s.O⟩ wr.heap.size a wc) ∧ Aside0 ((Kd.int .i64).R 3 wc w.heap.size (fun _ => True) (.slice Ac2 c.length cc2) c))
              case first =>
                have hc1 := hS2.out.2.c1
                have hc2 := hS2.out.2.c2
                have hlen : i < maxLen := by have := K3.out; simp only [maxLen]; omega
                cases ha : atomB a.f1 with
                | false =>
                  have e : clkM s a c = s.M := by simp [clkM, ha]
                  go_wp2_with (first | (go_at_call 36; (with_reducible refine (order_atomic.calls a.f1 false _ (by rw [atom_is, ha])).mono ?_); rintro e w1 ⟨rfl, ⟨nd, rfl⟩⟩))
                  go_meet
                  rw [e]
                  exact ⟨mv, ⟨(hS2.out.next (pw_below_drewN (Below.refl _ _) nd)).1.mono, (hS2.out.next (pw_below_drewN (Below.refl _ _) nd)).2⟩, ⟨Kd.R_drewN hv2.out _⟩⟩
                | true =>
                  cases hb : wrB a.f1 with
                  | false =>
                    have e : clkM s a c = s.M := by simp [clkM, hb]
                    go_wp2_with (first | (go_at_call 36; (with_reducible refine (order_atomic.calls a.f1 true _ (by rw [atom_is, ha])).mono ?_); rintro e w1 ⟨rfl, ⟨nd, rfl⟩⟩) | (go_at_call 24; (with_reducible refine (order_Writes.calls a.f1 false _ (by rw [wr_is, hb])).mono ?_); rintro e w1 ⟨rfl, ⟨nd2, rfl⟩⟩))
                    go_meet
                    rw [e]
                    exact ⟨mv, ⟨(hS2.out.next (pw_below_drewN (Below.refl _ _) (nd + nd2))).1.mono, (hS2.out.next (pw_below_drewN (Below.refl _ _) (nd + nd2))).2⟩, ⟨Kd.R_drewN hv2.out _⟩⟩
                  | true =>
                    have e : clkM s a c = fun y => if y = a.f2 then some c else s.M y := by simp [clkM, ha, hb]
                    go_wp2_with (first | (go_at_call 36; (with_reducible refine (order_atomic.calls a.f1 true _ (by rw [atom_is, ha])).mono ?_); rintro e w1 ⟨rfl, ⟨nd, rfl⟩⟩) | (go_at_call 24; (with_reducible refine (order_Writes.calls a.f1 true _ (by rw [wr_is, hb])).mono ?_); rintro e w1 ⟨rfl, ⟨nd2, rfl⟩⟩) | ((with_reducible refine gate_ (.mapUpdate 52 (.tmp 74) (.tmp 76) (.tmp 77)) rfl ?_); refine MapIs.put _ rfl (.tmp 74) (.tmp 76) (.tmp 77) 52 37 rfl Try.underlying3 Try.underlying52 gm i mv rfl (hS2.out.next (pw_below_drewN (Below.refl _ _) (nd + nd2))).1.2.1 hlen a.f2 rfl HW.out _ rfl ?_; intro w5 hm5 hg5))
                    go_meet
                    rw [e]
                    have hd := hS2.out.next (pw_below_drewN (Below.refl _ _) (nd + nd2))
                    have hr5 : Rows3 _ w5 := Rows3.grown hg5 (fun k e cells e2 => by cases e; exact map_ne_cells hd.1.2.1 e2 rfl)
                    exact ⟨_, ⟨hd.1.put hm5 hg5 BG.out BM.out (Kd.R_drewN hv2.out _), (hg5.block _ (lt_of_blk hd.2) (by simpa using map_ne_cells hd.1.2.1 hd.2)).trans hd.2⟩, ⟨row3 (Kd.R_drewN hv2.out _) hr5⟩⟩
              case rest =>
                clear hS2 hv2
                obtain ⟨mv2, hS3, hv3⟩ := hcut
                have hc0 := hS3.out.2.c0
                have hm := hS3.out.1.1.cell a.f0.toNat HT.out
                have hmf := blk_frozen hS3.out.1.1.2.1 a.f0.toNat
                go_upto_region 21 with (fail)
                have hlc : c.length ≤ 10 := by rw [← HCL.out]; exact clk1_len s a
                have hI4 := hS3.out.1.know HT.out HKL.out HG0.out B0.out hv3.out
                have hv4 := row3 hv3.out (Rows3.set hS3.out.1.1.2.1 (by decide) a.f0.toNat (.slice Ac2 c.length cc2))
                clear hS3 hv3 hm hmf hc0
                generalize wc.setCell ⟨w0.heap.size, a.f0.toNat, none⟩ (.slice Ac2 c.length cc2) = W at *
                obtain ⟨Au, cu, hue⟩ := Kd.S_slice hI4.2.2.2.2.1
                subst hue
                have hOl : s.O.length ≤ 1000000000000 := by rw [HOL.out]; have := K3.out; omega
                go_wp2_with (first | ((with_reducible refine gate_dst (N := 84) rfl ?_); refine Kd.R_lit (Kd.int .i64) _ 3 ?hg (N := 84) ?hd (xs := ([] : List Int)) (inner := []) (ok := fun _ => True) (okp := fun _ => True) ?hr ?hp (fun _ hk => hk) trivial (Below.refl _ _) (Nat.le_refl _) (by simp) ?_; (case hd => rfl); (case hg => rfl); (case hr => first | (go_simp; done) | (go_simp; rfl)); (case hp => exact (Reps.none _ _)); intro ve w5 hoe hb5 hg5 hn5) | ((with_reducible refine gate_builtin (b := .append) (xs := #[.tmp 84, .tmp 85]) rfl ?_); at_builtin; refine Kd.R_append_rows (Kd.int .i64) (w0 := W) W.heap.size rfl (.tmp 84) (.tmp 85) 37 3 (.int .i64 0) 8 rfl Try.underlying37 info3 rfl (by decide) (by omega) ve [] c _ _ _ (fun _ => True) (fun _ => False) rfl rfl hoe (Kd.R_reads' (Kd.R_below hv4 hb5)).2.2 (fun _ _ h => h) (fun _ h => h.elim) (fun _ _ => trivial) hb5 hb5.size (by simp; omega) ?_; intro vr w6 hor hb6 hg6 hat6; rw [List.nil_append] at hor; obtain ⟨Ar, cr, rfl⟩ := Kd.R_slice hor; have hI6 := hI4.next hb6) | ((with_reducible refine gate_builtin (b := .append) (xs := #[.tmp 83, .tmp 87]) rfl ?_); at_builtin; refine Kd.S_append (Kd.slice 3 (Kd.int .i64)) (w0 := w6) Bo rfl (.tmp 83) (.tmp 87) 34 37 (.slice none 0 0) 24 rfl Try.underlying34 (by kernel_rfl) rfl (by decide) (by decide) (.slice Au s.O.length cu) s.O c [.slice Ar c.length cr] (fun _ => True) (fun k => W.heap.size ≤ k) rfl rfl ⟨_, rfl, Kd.R_lower (Kd.R_mono (Kd.R_bound hor) (fun k hk => hk.2.1)) hI4.2.2.2.2.2.2.2⟩ (fun k hk => ⟨trivial, fun e => by have := Kd.S_lt hI4.2.2.2.2.1 k e.symm; omega⟩) (fun _ _ => trivial) (Kd.S_mono (Kd.S_below (Kd.S_bound hI4.2.2.2.2.1) hb6) (fun k hk => ⟨trivial, by have := hk.2.2.1; omega⟩)) (Below.refl _ _) hI6.2.2.2.2.2.2.2 (by omega) ?_; intro vo w7 ho7 hb7 hg7 hat7))
                have hI7 := hI6.pushed hg7 ho7 HG0.out BG.out BO.out
                go_roundg g
                case measure => omega
                case rel => exact ⟨i + 1, _, _, by omega, by omega, by rw [wrap_succ i (by have := K3.out; omega)], ⟨by rw [HRUN.out]; unfold cstep; rw [HCL.out]; exact hI7⟩⟩
          · have c1b : decide ((i : Int) < (l1.length : Int)) = false := decide_eq_false (by omega)
            obtain rfl : i = l1.length := by omega
            rw [List.take_length] at HI
            go_wp2
            go_ret
            obtain ⟨hK, hM, h3, h4, hO, hnil, hb, hBo⟩ := HI.out
            have hlo := BO.out
            exact ⟨_, rfl, by rw [Int.toNat_natCast]; exact Kd.S_lower hO (by omega), hb, by rw [Int.toNat_natCast]; exact hnil⟩
  · replace c4 := Bool.eq_false_iff.mpr c4
    subst c4
    rw [if_neg (by decide)] at H
    obtain rfl := Option.some.inj H
    go_enter Try.func12, Try.ntmps12
    go_wp2_with (first | (go_at_call 21; (with_reducible refine (order_Right.calls k a0 _ _ l1 false _ ?side1 ?side2 A3.out).mono ?_); (case side1 => exact HR1.out); (case side2 => exact HC1.out); rintro e w0 ⟨rfl, hb0⟩; replace HB := Aside0.mk (HB.out.trans (hb0.mono (Nat.le_refl _))); clear hb0))
    go_ret
    exact ⟨_, rfl, Kd.S_nil _ _ _ _ _, HB.out, fun _ => rfl⟩
theorem order_Clocks.calls (k : Nat) (a0 : Int) (A1 : Option Addr) (c1 : Nat) (l1 : List S33) (r : List (List Int)) (w : World) (hr1 : Kd.C k33 w A1 l1.length l1) (hc1 : l1.length ≤ c1) (h : order_Clocks.f k a0 l1 = some r) :
    Calls Try.prog 12 #[.int .i64 a0, .slice A1 l1.length c1] w fun e w' => ∃ v0_ : Value, e = .returned v0_ ∧ Kd.S (Kd.slice 3 (Kd.int .i64)) 37 w' w.heap.size (fun _ => True) v0_ r ∧ Below w.heap.size w w' :=
  (order_Clocks.calls0 k a0 A1 c1 l1 r w hr1 hc1 h).mono fun e w' ⟨v, h1, h2, h3, _⟩ => ⟨v, h1, h2, h3⟩

/-! ### order_plain: function 30 -/
def order_plain.f (a0 : Int) : Option (Bool) := if a0 = 6 then (some true) else (some (a0 == 7))
set_option maxHeartbeats 8000000 in
set_option maxRecDepth 100000 in
theorem order_plain.calls (a0 : Int) (r : Bool) (w : World) (h : order_plain.f a0 = some r) :
    Calls Try.prog 30 #[.int .i64 a0] w fun e w' => e = .returned (.bool r) ∧ Drawn0 w w' := by
  have H : (if a0 = 6 then (some true) else (some (a0 == 7))) = some r := h
  clear h
  by_cases c2 : a0 = 6
  · rw [if_pos c2] at H
    have c2b0 : (a0 == 6) = true := beq_iff_eq.mpr c2
    have c2b1 : (a0 != 6) = false := bne_eq_false_iff_eq.mpr c2
    clear c2
    obtain rfl := Option.some.inj H
    go_enter Try.func30, Try.ntmps30
    go_wp2
    go_ret
    exact ⟨by first | rfl | (simp; done) | (simp [*]; done), by repeat (first | exact Drawn0.refl _ | apply Drawn0.step)⟩
  · rw [if_neg c2] at H
    have c2b0 : (a0 == 6) = false := beq_eq_false_iff_ne.mpr c2
    have c2b1 : (a0 != 6) = true := bne_iff_ne.mpr c2
    obtain rfl := Option.some.inj H
    go_enter Try.func30, Try.ntmps30
    go_wp2
    go_ret
    exact ⟨by first | rfl | (simp; done) | (simp [*]; done), by repeat (first | exact Drawn0.refl _ | apply Drawn0.step)⟩

end Go.Proofs.Yteahmcfinijmdaa.QOrderTells
