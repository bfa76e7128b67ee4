/- It is proved that the law SchedMakes of sakialaw28 answers true for every input: the schedules that are made of any numbers, by lot, by runs and in turn, or that there are none, are what the reference tells. Conditions: none. -/
import Derived.Test.YtflcjdpnpdkdeaaQSchedMakesx3
import Derived.Test.YtflcjdpnpdkdeaaWSized
namespace Go.Proofs.Ytflcjdpnpdkdeaa.PrintWords
/-- The row's word, under the name by which the row calls it. -/
theorem sized_ints {H : Type} {enc : TypeId × Value → H} {P : Program} {W : World} {base : Nat} {spare : Nat → Bool} {held : Bool} {t e : TypeId} {k : IntKind} {a : Option Addr} {len cap : Nat} {d : DataW H} {ps : List MemPlace} {ts : List TypeId} {ds : List (DataW H)} {j : Nat}
    (hsz : (DataW.weightsEach P ts ds).all (· ≤ reachBytes) = true) (ht : ts[j]? = some t) (hd : ds[j]? = some d) (hu : P.underlying t = some (.slice e)) (he : P.underlying e = some (.int k)) (hc : P.cellsOf e = 1) {B : Nat} (hB : P.bytesOf e = B)
    (h : DataW.Trod enc P W base spare held t (.slice a len cap) d ps) : len * B ≤ 140737488351232 :=
  Go.Proofs.YtflcjdpnpdkdeaaW.PrintWords.sized_ints hsz ht hd hu he hc hB h
end Go.Proofs.Ytflcjdpnpdkdeaa.PrintWords
namespace Go.Proofs.Ytflcjdpnpdkdeaa.Pure
open Go Go.RowKit Go.Proofs.Ytflcjdpnpdkdeaa.QSchedMakes Go.Proofs.YtflcjdpnpdkdeaaW.PrintWords Go.Proofs.YtflcjdpnpdkdeaaW.PrintLast Go.Proofs.YtflcjdpnpdkdeaaW.PrintMore
set_option linter.unusedVariables false
set_option linter.unusedSimpArgs false

theorem rd_drop (a : List Int) (i : Nat) (h : i < a.length) : a.drop i = rd a (i : Int) :: a.drop (i + 1) := by
  rw [List.drop_eq_getElem_cons h]
  simp [rd, List.getD_eq_getElem?_getD, h]
theorem rd_get (a : List Int) (i : Nat) (h : i < a.length) : rd a (i : Int) = a[i] := by
  simp [rd, List.getD_eq_getElem?_getD, h]
theorem rd_mem (a : List Int) (i : Nat) (h : i < a.length) : rd a (i : Int) ∈ a := by
  rw [rd_get a i h]; exact List.getElem_mem h
theorem wrap_succ (i : Nat) (h : i < 9223372036854775807) : wrap64 ((i : Int) + 1) = ((i + 1 : Nat) : Int) := by
  unfold wrap64; omega
theorem w_u64 (n : Int) : IntKind.u64.wrap n = n % 18446744073709551616 := by simp [IntKind.wrap, IntKind.bits, IntKind.signed]
theorem rdn (a b : List Int) (i : Nat) (h : i < a.length) : rd (a ++ b) i = rd a i := by
  rw [rd_get _ i (by simp; omega), rd_get a i h, List.getElem_append_left h]

def okt (n t : Int) : Bool := decide (0 ≤ t) && decide (t < n)
def thr (n : Int) : Bool := decide (1 ≤ n) && decide (n ≤ 10)
def right (n : Int) (l : List Int) : Bool := thr n && l.all (okt n)
theorem threads_yes (n : Int) : sched_threads.f n = some (thr n) := by
  unfold sched_threads.f thr
  by_cases h : n ≥ 1
  · rw [if_pos h, decide_eq_true (show 1 ≤ n by omega)]; simp
  · rw [if_neg h, decide_eq_false (show ¬ 1 ≤ n by omega)]; simp
theorem right_loop (n : Int) (l : List Int) (hl : l.length ≤ 70000) (d : Nat) : ∀ (k i : Nat), i + d = l.length → d < k →
    sched_Right.l0 k n l l.length i = some ((l.drop i).all (okt n)) := by
  induction d with
  | zero =>
    intro k i hi hk
    obtain ⟨k, rfl⟩ : ∃ m, k = m + 1 := ⟨k - 1, by omega⟩
    simp only [sched_Right.l0]
    rw [if_neg (by omega), List.drop_of_length_le (by omega)]
    rfl
  | succ d ih =>
    intro k i hi hk
    obtain ⟨k, rfl⟩ : ∃ m, k = m + 1 := ⟨k - 1, by omega⟩
    simp only [sched_Right.l0]
    rw [if_pos (by omega), if_pos (by omega), if_pos (by omega), rd_drop l i (by omega), List.all_cons]
    by_cases h1 : rd l i < 0
    · rw [if_pos h1, show okt n (rd l i) = false by simp [okt]; omega]; simp
    · rw [if_neg h1]
      by_cases h2 : rd l i ≥ n
      · rw [if_pos h2, show okt n (rd l i) = false by simp [okt]; omega]; simp
      · rw [if_neg h2, show okt n (rd l i) = true by simp [okt]; omega, wrap_succ i (by omega), ih k (i + 1) (by omega) (by omega)]; simp
theorem right_yes (n : Int) (l : List Int) (hl : l.length ≤ 70000) (k : Nat) (hk : l.length + 1 ≤ k) : sched_Right.f k n l = some (right n l) := by
  unfold sched_Right.f right
  rw [threads_yes, Option.bind_some]
  cases thr n
  · simp
  · rw [if_pos rfl]
    exact right_loop n l hl l.length k 0 (by omega) (by omega)
theorem right_parts {n : Int} {l : List Int} (h : right n l = true) : 1 ≤ n ∧ n ≤ 10 ∧ ∀ t ∈ l, 0 ≤ t ∧ t < n := by
  simp only [right, thr, Bool.and_eq_true, decide_eq_true_eq, List.all_eq_true, okt] at h
  exact ⟨h.1.1, h.1.2, h.2⟩
theorem right_mk {n : Int} {l : List Int} (h1 : 1 ≤ n) (h2 : n ≤ 10) (h : ∀ t ∈ l, 0 ≤ t ∧ t < n) : right n l = true := by
  simp only [right, thr, Bool.and_eq_true, decide_eq_true_eq, List.all_eq_true, okt]
  exact ⟨⟨h1, h2⟩, h⟩

theorem same_loop (a b : List Int) (h : a.length = b.length) (hl : a.length ≤ 70000) (d : Nat) : ∀ (k i : Nat), i + d = a.length → d < k →
    sakiaref05_Same.l0 k a b i = some (decide (a.drop i = b.drop i)) := by
  induction d with
  | zero =>
    intro k i hi hk
    obtain ⟨k, rfl⟩ : ∃ m, k = m + 1 := ⟨k - 1, by omega⟩
    simp only [sakiaref05_Same.l0]
    rw [if_neg (by omega), List.drop_of_length_le (by omega), List.drop_of_length_le (by omega)]
    simp
  | succ d ih =>
    intro k i hi hk
    obtain ⟨k, rfl⟩ : ∃ m, k = m + 1 := ⟨k - 1, by omega⟩
    simp only [sakiaref05_Same.l0]
    rw [if_pos (by omega), if_pos (by omega), if_pos (by omega), rd_drop a i (by omega), rd_drop b i (by omega)]
    by_cases e : rd a i = rd b i
    · rw [if_pos e, wrap_succ i (by omega), ih k (i + 1) (by omega) (by omega)]
      simp [e]
    · rw [if_neg e]
      simp [e]
theorem same05 (a : List Int) (hl : a.length ≤ 70000) (k : Nat) (hk : a.length < k) : sakiaref05_Same.f k a a = some true := by
  unfold sakiaref05_Same.f
  rw [if_pos rfl]
  have := same_loop a a rfl hl a.length k 0 (by omega) hk
  simpa using this

theorem live_yes (k : Nat) (hk : 20 ≤ k) : sakialaw28_live.f k = some true := by
  have h : sakialaw28_live.f 20 = some true := by decide +kernel
  exact at_rounds sakialaw28_live.mono hk h


def made (n s : Int) : Bool := thr n && decide (0 ≤ s) && decide (s ≤ 65536)
theorem made_yes (n s : Int) : sched_made.f n s = some (made n s) := by
  unfold sched_made.f made
  rw [threads_yes, Option.bind_some]
  cases thr n
  · simp
  · rw [if_pos rfl]
    by_cases h : s ≥ 0
    · rw [if_pos h, decide_eq_true (show 0 ≤ s by omega)]; simp
    · rw [if_neg h, decide_eq_false (show ¬ 0 ≤ s by omega)]; simp
theorem made_parts {n s : Int} (h : made n s = true) : 1 ≤ n ∧ n ≤ 10 ∧ 0 ≤ s ∧ s ≤ 65536 := by
  simp only [made, thr, Bool.and_eq_true, decide_eq_true_eq] at h
  exact ⟨h.1.1.1, h.1.1.2, h.1.2, h.2⟩
theorem made_mk {n s : Int} (h1 : 1 ≤ n) (h2 : n ≤ 10) (h3 : 0 ≤ s) (h4 : s ≤ 65536) : made n s = true := by
  simp [made, thr, h1, h2, h3, h4]
/-- Who steps in turn. -/
def rot (n : Int) (m : Nat) : List Int := (List.range m).map fun (i : Nat) => (i : Int) % n
theorem rot_len (n : Int) (m : Nat) : (rot n m).length = m := by simp [rot]
theorem rot_succ (n : Int) (m : Nat) : rot n m ++ [(m : Int) % n] = rot n (m + 1) := by simp [rot, List.range_succ]
theorem rot_rd (n : Int) (m i : Nat) (h : i < m) : rd (rot n m) i = (i : Int) % n := by
  rw [rd_get _ i (by rw [rot_len]; exact h)]
  simp [rot]
theorem rotate_loop (n : Int) (hn : 1 ≤ n) (m : Nat) (hm : m ≤ 65536) (d : Nat) : ∀ (k i : Nat), i + d = m → d < k → sched_Rotate.l0 k n (rot n i) m i = some (rot n m) := by
  induction d with
  | zero =>
    intro k i hi hk
    obtain ⟨k, rfl⟩ : ∃ q, k = q + 1 := ⟨k - 1, by omega⟩
    obtain rfl : i = m := by omega
    simp only [sched_Rotate.l0]
    rw [if_neg (by omega)]
  | succ d ih =>
    intro k i hi hk
    obtain ⟨k, rfl⟩ : ∃ q, k = q + 1 := ⟨k - 1, by omega⟩
    simp only [sched_Rotate.l0]
    rw [if_pos (by omega), if_neg (by omega), rot_len, if_pos (by omega), Int.tmod_eq_emod_of_nonneg (by omega), rot_succ, wrap_succ i (by omega)]
    exact ih k (i + 1) (by omega) (by omega)
theorem rotate_yes (n s : Int) (k : Nat) (hk : 70000 ≤ k) : sched_Rotate.f k n s = some (if made n s = true then rot n s.toNat else []) := by
  unfold sched_Rotate.f
  rw [made_yes, Option.bind_some]
  by_cases h : made n s = true
  · obtain ⟨h1, h2, h3, h4⟩ := made_parts h
    rw [if_pos h, if_pos h]
    obtain ⟨m, rfl⟩ := Int.eq_ofNat_of_zero_le h3
    exact rotate_loop n h1 m (by omega) m k 0 (by omega) (by omega)
  · rw [if_neg h, if_neg h]


def nx (x : Int) : Int := (x * 6364136223846793005 % 18446744073709551616 + 1442695040888963407) % 18446744073709551616
def tt (n x : Int) : Int := x / 8589934592 % n
theorem nx_range (x : Int) : 0 ≤ nx x ∧ nx x < 18446744073709551616 := by unfold nx; omega
theorem tt_range (n x : Int) (hn : 1 ≤ n) : 0 ≤ tt n x ∧ tt n x < n := by
  unfold tt
  exact ⟨Int.emod_nonneg _ (by omega), Int.emod_lt_of_pos _ (by omega)⟩
def refS (n most : Int) : Nat → Int → Int → Int → List Int
  | 0, _, _, _ => []
  | d + 1, x, left, t => if left = 0 then tt n (nx x) :: refS n most d (nx x) (nx x % most) (tt n (nx x)) else t :: refS n most d x (left - 1) t
theorem refS_len (n most : Int) (d : Nat) : ∀ x left t, (refS n most d x left t).length = d := by
  induction d with
  | zero => intro x left t; rfl
  | succ d ih =>
    intro x left t
    simp only [refS]
    split <;> simp [ih]
theorem next_yes (x : Int) : sched_next.f x = some (nx x) := by
  unfold sched_next.f nx
  rw [w_u64, w_u64]
theorem nx_mod (most x : Int) (h : 1 ≤ most) : 0 ≤ nx x % most ∧ nx x % most < most := ⟨Int.emod_nonneg _ (by omega), Int.emod_lt_of_pos _ (by omega)⟩
section
variable (n most : Int) (s : Nat)
def A0 (d : Nat) : Prop := ∀ (k : Nat) (seed : Int) (out : List Int) (t : Int), out.length + d = s → 3 * d + 1 ≤ k → sched_Runs.l0 k n seed s most out = some (out ++ refS n most d seed 0 t)
def B0 (d : Nat) : Prop := ∀ (k : Nat) (seed : Int) (out : List Int) (t : Int) (j : Nat), out.length + d = s → 3 * d + 2 ≤ k → 0 ≤ seed → (j : Int) ≤ seed % most + 1 →
      sched_Runs.l1 k n seed s most out t j = some (out ++ refS n most d seed (seed % most + 1 - j) t)
theorem runs_A0 : A0 n most s 0 := by
  intro k seed out t hl hk
  obtain ⟨k, rfl⟩ : ∃ q, k = q + 1 := ⟨k - 1, by omega⟩
  simp only [sched_Runs.l0, refS]
  rw [if_neg (by omega)]
  simp
theorem runs_B (hm : 1 ≤ most) (hm2 : most ≤ 9223372036854775807) (hs : s ≤ 65536) (d : Nat) (hA : A0 n most s d) (hB : ∀ e, d = e + 1 → B0 n most s e) : B0 n most s d := by
  intro k seed out t j hl hk h0 hj
  have e1 := Int.emod_nonneg seed (show most ≠ 0 by omega)
  have e2 := Int.emod_lt_of_pos seed (show 0 < most by omega)
  obtain ⟨k, rfl⟩ : ∃ q, k = q + 1 := ⟨k - 1, by omega⟩
  simp only [sched_Runs.l1]
  rw [w_u64, show most % 18446744073709551616 = most by omega, if_neg (by omega), Int.tmod_eq_emod_of_nonneg h0]
  by_cases hjl : (j : Int) ≤ seed % most
  · rw [if_pos hjl]
    cases d with
    | zero =>
      rw [if_neg (by omega)]
      have := hA k seed out t hl (by omega)
      rw [this]
      simp [refS]
    | succ e =>
      rw [if_pos (by omega), if_pos (by omega), w_u64, show ((j : Int) + 1) % 18446744073709551616 = ((j + 1 : Nat) : Int) by omega]
      rw [hB e rfl k seed (out ++ [t]) t (j + 1) (by simp; omega) (by omega) h0 (by omega)]
      simp only [refS]
      rw [if_neg (by omega), show seed % most + 1 - ((j + 1 : Nat) : Int) = seed % most + 1 - (j : Int) - 1 by omega]
      simp
  · rw [if_neg hjl, hA k seed out t hl (by omega), show seed % most + 1 - (j : Int) = 0 by omega]
theorem runs_A (hn : 1 ≤ n) (hn2 : n ≤ 10) (hm : 1 ≤ most) (hm2 : most ≤ 9223372036854775807) (hs : s ≤ 65536) (d : Nat) (hB : B0 n most s d) : A0 n most s (d + 1) := by
  intro k seed out t hl hk
  obtain ⟨k, rfl⟩ : ∃ q, k = q + 2 := ⟨k - 2, by omega⟩
  have hr := nx_range seed
  have hq := nx_mod most seed hm
  have ht := tt_range n (nx seed) hn
  simp only [sched_Runs.l0]
  rw [if_pos (by omega), next_yes, Option.bind_some, w_u64, show n % 18446744073709551616 = n by omega, if_neg (by omega), Int.tmod_eq_emod_of_nonneg (by omega)]
  rw [show wrap64 (nx seed / 8589934592 % n) = tt n (nx seed) by unfold tt at ht ⊢; unfold wrap64; omega]
  simp only [sched_Runs.l1]
  rw [w_u64, show most % 18446744073709551616 = most by omega, if_neg (by omega), Int.tmod_eq_emod_of_nonneg hr.1, if_pos hq.1, if_pos (by omega), if_pos (by omega), w_u64, show ((0 : Int) + 1) % 18446744073709551616 = ((1 : Nat) : Int) by decide]
  rw [hB k (nx seed) (out ++ [tt n (nx seed)]) (tt n (nx seed)) 1 (by simp; omega) (by omega) hr.1 (by omega)]
  simp only [refS]
  rw [if_pos trivial, show nx seed % most + 1 - ((1 : Nat) : Int) = nx seed % most by omega]
  simp
theorem runs_all (hn : 1 ≤ n) (hn2 : n ≤ 10) (hm : 1 ≤ most) (hm2 : most ≤ 9223372036854775807) (hs : s ≤ 65536) (d : Nat) : A0 n most s d ∧ B0 n most s d := by
  induction d with
  | zero => exact ⟨runs_A0 n most s, runs_B n most s hm hm2 hs 0 (runs_A0 n most s) (fun e h => by cases h)⟩
  | succ d ih =>
    have a := runs_A n most s hn hn2 hm hm2 hs d ih.2
    exact ⟨a, runs_B n most s hm hm2 hs (d + 1) a (fun e h => by cases h; exact ih.2)⟩
end
theorem runs_yes (n seed s most : Int) (hm2 : most ≤ 9223372036854775807) (k : Nat) (hk : 200000 ≤ k) : sched_Runs.f k n seed s most = some (if made n s = true ∧ 1 ≤ most then refS n most s.toNat seed 0 0 else []) := by
  unfold sched_Runs.f
  rw [made_yes, Option.bind_some]
  obtain ⟨k, rfl⟩ : ∃ q, k = q + 1 := ⟨k - 1, by omega⟩
  by_cases h : made n s = true
  · obtain ⟨h1, h2, h3, h4⟩ := made_parts h
    obtain ⟨m, rfl⟩ := Int.eq_ofNat_of_zero_le h3
    rw [if_pos h]
    by_cases hm : most < 1
    · rw [decide_eq_true hm, if_neg (by omega)]
      simp [sched_Runs.j0]
    · rw [decide_eq_false hm, if_pos ⟨h, by omega⟩]
      simp only [sched_Runs.j0]
      rw [if_neg (by decide)]
      have := (runs_all n most m h1 h2 (by omega) hm2 (by omega) m).1 k seed [] 0 (by simp) (by omega)
      simpa using this
  · rw [if_neg h, if_neg (fun x => h x.1)]
    simp [sched_Runs.j0]
theorem lot_yes (n seed s : Int) (k : Nat) (hk : 200000 ≤ k) : sched_Lot.f k n seed s = some (if made n s = true then refS n 1 s.toNat seed 0 0 else []) := by
  unfold sched_Lot.f
  rw [runs_yes n seed s 1 (by decide) k hk, Option.bind_some]
  by_cases h : made n s = true
  · rw [if_pos ⟨h, by decide⟩, if_pos h]
  · rw [if_neg (fun x => h x.1), if_neg h]

theorem refruns_loop (n most : Int) (hn : 1 ≤ n) (hn2 : n ≤ 10) (hm : 1 ≤ most) (hm2 : most ≤ 9223372036854775807) (s : Nat) (hs : s ≤ 65536) (d : Nat) : ∀ (k i : Nat) (x left t : Int) (acc : List Int), i + d = s → acc.length = i → d < k → 0 ≤ left → left < 9223372036854775808 →
    sakiaref28_Runs.l0 k n x s most acc left t i = some (acc ++ refS n most d x left t) := by
  induction d with
  | zero =>
    intro k i x left t acc hi ha hk l0 l1
    obtain ⟨k, rfl⟩ : ∃ q, k = q + 1 := ⟨k - 1, by omega⟩
    simp only [sakiaref28_Runs.l0, refS]
    rw [if_neg (by omega)]
    simp
  | succ d ih =>
    intro k i x left t acc hi ha hk l0 l1
    obtain ⟨k, rfl⟩ : ∃ q, k = q + 1 := ⟨k - 1, by omega⟩
    simp only [sakiaref28_Runs.l0, refS]
    rw [if_pos (by omega)]
    by_cases h : left = 0
    · have hr := nx_range x
      have hq := nx_mod most x hm
      have ht := tt_range n (nx x) hn
      have ex : IntKind.u64.wrap ((IntKind.u64.wrap (x * 6364136223846793005)) + 1442695040888963407) = nx x := by rw [w_u64, w_u64]; rfl
      rw [if_pos h, if_pos h, ex]
      have em : IntKind.u64.wrap most = most := by rw [w_u64]; omega
      have en : IntKind.u64.wrap n = n := by rw [w_u64]; omega
      have ed : wrap64 (Int.tmod (IntKind.u64.wrap (Int.tdiv (nx x) 8589934592)) n) = tt n (nx x) := by
        rw [Int.tdiv_eq_ediv_of_nonneg hr.1, w_u64, show nx x / 8589934592 % 18446744073709551616 = nx x / 8589934592 by omega, Int.tmod_eq_emod_of_nonneg (by omega)]
        unfold tt at ht ⊢
        unfold wrap64
        omega
      have el : IntKind.u64.wrap ((IntKind.u64.wrap (1 + Int.tmod (nx x) most)) - 1) = nx x % most := by
        rw [Int.tmod_eq_emod_of_nonneg hr.1, w_u64, w_u64]
        omega
      rw [em, en, if_neg (by omega), if_neg (by omega), if_pos (by omega), ed, el, wrap_succ i (by omega)]
      rw [ih k (i + 1) (nx x) (nx x % most) (tt n (nx x)) (acc ++ [tt n (nx x)]) (by omega) (by simp; omega) (by omega) hq.1 (by omega)]
      simp
    · rw [if_neg h, if_neg h, if_pos (by omega), w_u64, show (left - 1) % 18446744073709551616 = left - 1 by omega, wrap_succ i (by omega)]
      rw [ih k (i + 1) x (left - 1) t (acc ++ [t]) (by omega) (by simp; omega) (by omega) (by omega) (by omega)]
      simp
theorem refruns_yes (n most x : Int) (hn : 1 ≤ n) (hn2 : n ≤ 10) (hm : 1 ≤ most) (hm2 : most ≤ 9223372036854775807) (s : Nat) (hs : s ≤ 65536) (k : Nat) (hk : 70000 ≤ k) : sakiaref28_Runs.f k n x s most = some (refS n most s x 0 0) := by
  have := refruns_loop n most hn hn2 hm hm2 s hs s k 0 x 0 0 [] (by omega) rfl (by omega) (by decide) (by decide)
  simpa [sakiaref28_Runs.f] using this

theorem makes_loop (n seed s most : Int) (c : List Int) (hn : 1 ≤ n) (hn2 : n ≤ 10) (m : Nat) (hm : m ≤ 3000) (hmost : most ≤ 9223372036854775807) (hc : c = if 1 ≤ most then refS n most m seed 0 0 else []) (d : Nat) : ∀ (k i : Nat), i + d = m → d + 70000 < k →
    sakialaw28_SchedMakes.l0 k n seed m most (rot n m) c i = some true := by
  induction d with
  | zero =>
    intro k i hi hk
    obtain ⟨k, rfl⟩ : ∃ q, k = q + 1 := ⟨k - 1, by omega⟩
    simp only [sakialaw28_SchedMakes.l0]
    rw [if_neg (by omega)]
    by_cases h : most < 1
    · rw [if_pos h]
      rw [if_neg (by omega)] at hc
      subst hc
      rw [if_pos (by rfl), live_yes k (by omega)]
      rfl
    · rw [if_pos (by omega)] at hc
      have hl := refS_len n most m seed 0 0
      rw [if_neg h, refruns_yes n most seed hn hn2 (by omega) hmost m (by omega) k (by omega), Option.bind_some, hc, same05 _ (by omega) k (by omega), Option.bind_some, if_pos rfl, live_yes k (by omega)]
      rfl
  | succ d ih =>
    intro k i hi hk
    obtain ⟨k, rfl⟩ : ∃ q, k = q + 1 := ⟨k - 1, by omega⟩
    simp only [sakialaw28_SchedMakes.l0]
    rw [if_pos (by omega), if_pos (by omega), rot_len, if_pos (by omega), if_neg (by omega), rot_rd n m i (by omega), Int.tmod_eq_emod_of_nonneg (by omega), if_pos rfl, wrap_succ i (by omega)]
    exact ih k (i + 1) (by omega) (by omega)
theorem SchedMakes : sakialaw28_SchedMakes.Pure := by
  intro n seed s most hn hseed hs hmost
  simp only [Lit.wf, decide_eq_true_eq, Bool.and_eq_true, IntKind.min, IntKind.max, IntKind.signed, IntKind.bits] at hmost
  simp at hmost
  obtain ⟨K, hK⟩ : ∃ K : Nat, 300000 < K := ⟨300000 + 1, by omega⟩
  refine ⟨K + 1, ?_⟩
  unfold sakialaw28_SchedMakes.f
  rw [rotate_yes n s _ (by omega), Option.bind_some, lot_yes n seed s _ (by omega), Option.bind_some, runs_yes n seed s most hmost.2 _ (by omega), Option.bind_some]
  by_cases h : made n s = true
  · obtain ⟨h1, h2, h3, h4⟩ := made_parts h
    obtain ⟨m, rfl⟩ := Int.eq_ofNat_of_zero_le h3
    have hc : (if made n (m : Int) = true ∧ 1 ≤ most then refS n most ((m : Int)).toNat seed 0 0 else []) = if 1 ≤ most then refS n most m seed 0 0 else [] := by
      by_cases hm : 1 ≤ most
      · rw [if_pos ⟨h, hm⟩, if_pos hm, Int.toNat_natCast]
      · rw [if_neg (fun x => hm x.2), if_neg hm]
    rw [if_pos h, if_pos h, hc, Int.toNat_natCast, if_neg (by omega), if_neg (by omega), if_neg (by omega), decide_eq_false (by omega)]
    simp only [sakialaw28_SchedMakes.j0]
    rw [if_neg (by decide), rot_len]
    have hl := refS_len n 1 m seed 0 0
    by_cases h5 : (m : Int) > 3000
    · rw [if_pos h5, if_pos rfl, if_pos (by rw [hl]), live_yes K (by omega)]
      rfl
    · rw [if_neg h5, if_pos rfl, refruns_yes n 1 seed h1 h2 (by decide) (by decide) m (by omega) K (by omega), Option.bind_some, same05 _ (by omega) K (by omega), Option.bind_some, if_pos rfl]
      exact makes_loop n seed m most _ h1 h2 m (by omega) hmost.2 rfl m K 0 (by omega) (by omega)
  · have fin : sakialaw28_SchedMakes.j0 (K + 1) n seed s most [] [] [] true = some true := by
      simp only [sakialaw28_SchedMakes.j0]
      rw [if_pos trivial, if_pos (by simp [wrap64]), live_yes K (by omega)]
      rfl
    have hc : (if made n s = true ∧ 1 ≤ most then refS n most s.toNat seed 0 0 else []) = [] := if_neg (fun x => h x.1)
    rw [if_neg h, if_neg h, hc]
    by_cases h1 : n < 1
    · rw [if_pos h1]; exact fin
    · rw [if_neg h1]
      by_cases h2 : n > 10
      · rw [if_pos h2]; exact fin
      · rw [if_neg h2]
        by_cases h3 : s < 0
        · rw [if_pos h3]; exact fin
        · rw [if_neg h3, decide_eq_true (by
            by_cases h4 : s > 65536
            · exact h4
            · exact absurd (made_mk (by omega) (by omega) (by omega) (by omega)) h)]
          exact fin


end Go.Proofs.Ytflcjdpnpdkdeaa.Pure
