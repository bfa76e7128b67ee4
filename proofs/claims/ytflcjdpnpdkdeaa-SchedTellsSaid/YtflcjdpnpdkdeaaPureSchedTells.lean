/- It is proved that the law SchedTells of sakialaw28 answers true for every input: which lists are schedules, how often each thread steps, how many rounds there are, and whether it is fair, are what the reference tells. Conditions: none. -/
import Derived.Test.YtflcjdpnpdkdeaaQSchedTellsx5
import Derived.Test.YtflcjdpnpdkdeaaWSized
namespace Go.Proofs.Ytflcjdpnpdkdeaa.PrintWords
/-- The row's word, under the name by which the row calls it. -/
theorem sized_ints {H : Type} {enc : TypeId × Value → H} {P : Program} {W : World} {base : Nat} {spare : Nat → Bool} {held : Bool} {t e : TypeId} {k : IntKind} {a : Option Addr} {len cap : Nat} {d : DataW H} {ps : List MemPlace} {ts : List TypeId} {ds : List (DataW H)} {j : Nat}
    (hsz : (DataW.weightsEach P ts ds).all (· ≤ reachBytes) = true) (ht : ts[j]? = some t) (hd : ds[j]? = some d) (hu : P.underlying t = some (.slice e)) (he : P.underlying e = some (.int k)) (hc : P.cellsOf e = 1) {B : Nat} (hB : P.bytesOf e = B)
    (h : DataW.Trod enc P W base spare held t (.slice a len cap) d ps) : len * B ≤ 140737488351232 :=
  Go.Proofs.YtflcjdpnpdkdeaaW.PrintWords.sized_ints hsz ht hd hu he hc hB h
end Go.Proofs.Ytflcjdpnpdkdeaa.PrintWords
namespace Go.Proofs.Ytflcjdpnpdkdeaa.Pure
open Go Go.RowKit Go.Proofs.Ytflcjdpnpdkdeaa.QSchedTells Go.Proofs.YtflcjdpnpdkdeaaW.PrintWords Go.Proofs.YtflcjdpnpdkdeaaW.PrintLast Go.Proofs.YtflcjdpnpdkdeaaW.PrintMore
set_option linter.unusedVariables false
set_option linter.unusedSimpArgs false

theorem rd_drop (a : List Int) (i : Nat) (h : i < a.length) : a.drop i = rd a (i : Int) :: a.drop (i + 1) := by
  rw [List.drop_eq_getElem_cons h]
  simp [rd, List.getD_eq_getElem?_getD, h]
theorem rd_get (a : List Int) (i : Nat) (h : i < a.length) : rd a (i : Int) = a[i] := by
  simp [rd, List.getD_eq_getElem?_getD, h]
theorem rd_mem (a : List Int) (i : Nat) (h : i < a.length) : rd a (i : Int) ∈ a := by
  rw [rd_get a i h]; exact List.getElem_mem h
theorem wrap_succ (i : Nat) (h : i < 9223372036854775807) : wrap64 ((i : Int) + 1) = ((i + 1 : Nat) : Int) := by
  unfold wrap64; omega
theorem w_u64 (n : Int) : IntKind.u64.wrap n = n % 18446744073709551616 := by simp [IntKind.wrap, IntKind.bits, IntKind.signed]
theorem rdn (a b : List Int) (i : Nat) (h : i < a.length) : rd (a ++ b) i = rd a i := by
  rw [rd_get _ i (by simp; omega), rd_get a i h, List.getElem_append_left h]

def okt (n t : Int) : Bool := decide (0 ≤ t) && decide (t < n)
def thr (n : Int) : Bool := decide (1 ≤ n) && decide (n ≤ 10)
def right (n : Int) (l : List Int) : Bool := thr n && l.all (okt n)
theorem threads_yes (n : Int) : sched_threads.f n = some (thr n) := by
  unfold sched_threads.f thr
  by_cases h : n ≥ 1
  · rw [if_pos h, decide_eq_true (show 1 ≤ n by omega)]; simp
  · rw [if_neg h, decide_eq_false (show ¬ 1 ≤ n by omega)]; simp
theorem right_loop (n : Int) (l : List Int) (hl : l.length ≤ 70000) (d : Nat) : ∀ (k i : Nat), i + d = l.length → d < k →
    sched_Right.l0 k n l l.length i = some ((l.drop i).all (okt n)) := by
  induction d with
  | zero =>
    intro k i hi hk
    obtain ⟨k, rfl⟩ : ∃ m, k = m + 1 := ⟨k - 1, by omega⟩
    simp only [sched_Right.l0]
    rw [if_neg (by omega), List.drop_of_length_le (by omega)]
    rfl
  | succ d ih =>
    intro k i hi hk
    obtain ⟨k, rfl⟩ : ∃ m, k = m + 1 := ⟨k - 1, by omega⟩
    simp only [sched_Right.l0]
    rw [if_pos (by omega), if_pos (by omega), if_pos (by omega), rd_drop l i (by omega), List.all_cons]
    by_cases h1 : rd l i < 0
    · rw [if_pos h1, show okt n (rd l i) = false by simp [okt]; omega]; simp
    · rw [if_neg h1]
      by_cases h2 : rd l i ≥ n
      · rw [if_pos h2, show okt n (rd l i) = false by simp [okt]; omega]; simp
      · rw [if_neg h2, show okt n (rd l i) = true by simp [okt]; omega, wrap_succ i (by omega), ih k (i + 1) (by omega) (by omega)]; simp
theorem right_yes (n : Int) (l : List Int) (hl : l.length ≤ 70000) (k : Nat) (hk : l.length + 1 ≤ k) : sched_Right.f k n l = some (right n l) := by
  unfold sched_Right.f right
  rw [threads_yes, Option.bind_some]
  cases thr n
  · simp
  · rw [if_pos rfl]
    exact right_loop n l hl l.length k 0 (by omega) (by omega)
theorem right_parts {n : Int} {l : List Int} (h : right n l = true) : 1 ≤ n ∧ n ≤ 10 ∧ ∀ t ∈ l, 0 ≤ t ∧ t < n := by
  simp only [right, thr, Bool.and_eq_true, decide_eq_true_eq, List.all_eq_true, okt] at h
  exact ⟨h.1.1, h.1.2, h.2⟩
theorem right_mk {n : Int} {l : List Int} (h1 : 1 ≤ n) (h2 : n ≤ 10) (h : ∀ t ∈ l, 0 ≤ t ∧ t < n) : right n l = true := by
  simp only [right, thr, Bool.and_eq_true, decide_eq_true_eq, List.all_eq_true, okt]
  exact ⟨⟨h1, h2⟩, h⟩

theorem same_loop (a b : List Int) (h : a.length = b.length) (hl : a.length ≤ 70000) (d : Nat) : ∀ (k i : Nat), i + d = a.length → d < k →
    sakiaref05_Same.l0 k a b i = some (decide (a.drop i = b.drop i)) := by
  induction d with
  | zero =>
    intro k i hi hk
    obtain ⟨k, rfl⟩ : ∃ m, k = m + 1 := ⟨k - 1, by omega⟩
    simp only [sakiaref05_Same.l0]
    rw [if_neg (by omega), List.drop_of_length_le (by omega), List.drop_of_length_le (by omega)]
    simp
  | succ d ih =>
    intro k i hi hk
    obtain ⟨k, rfl⟩ : ∃ m, k = m + 1 := ⟨k - 1, by omega⟩
    simp only [sakiaref05_Same.l0]
    rw [if_pos (by omega), if_pos (by omega), if_pos (by omega), rd_drop a i (by omega), rd_drop b i (by omega)]
    by_cases e : rd a i = rd b i
    · rw [if_pos e, wrap_succ i (by omega), ih k (i + 1) (by omega) (by omega)]
      simp [e]
    · rw [if_neg e]
      simp [e]
theorem same05 (a : List Int) (hl : a.length ≤ 70000) (k : Nat) (hk : a.length < k) : sakiaref05_Same.f k a a = some true := by
  unfold sakiaref05_Same.f
  rw [if_pos rfl]
  have := same_loop a a rfl hl a.length k 0 (by omega) hk
  simpa using this

theorem live_yes (k : Nat) (hk : 20 ≤ k) : sakialaw28_live.f k = some true := by
  have h : sakialaw28_live.f 20 = some true := by decide +kernel
  exact at_rounds sakialaw28_live.mono hk h


/-! rounds: which threads stand in a piece -/
def mets (n : Nat) (seg : List Int) : List Bool := (List.range n).map fun (t : Nat) => decide ((t : Int) ∈ seg)
theorem mets_len (n : Nat) (seg : List Int) : (mets n seg).length = n := by simp [mets]
theorem mets_at (n : Nat) (seg : List Int) (t : Nat) (h : t < n) : (mets n seg)[t]'(by rw [mets_len]; exact h) = decide ((t : Int) ∈ seg) := by simp [mets]
/-- all threads stand in it -/
def allIn (n : Nat) (seg : List Int) : Bool := (mets n seg).all id
theorem allIn_iff (n : Nat) (seg : List Int) : allIn n seg = true ↔ ∀ t : Nat, t < n → (t : Int) ∈ seg := by
  simp [allIn, mets]
theorem count_all (l : List Bool) : l.count true = l.length ↔ l.all id = true := by
  rw [List.count_eq_length, List.all_eq_true]
  constructor
  · intro h b hb; have := h b hb; simp [← this]
  · intro h b hb; have := h b hb; simpa using this.symm
def pad (n : Nat) (m : List Bool) : List Bool := m ++ List.replicate (10 - n) false
theorem pad_count (n : Nat) (m : List Bool) : (pad n m).count true = m.count true := by
  simp [pad, List.count_replicate]
theorem mets_nil (n : Nat) : mets n [] = List.replicate n false := by
  apply List.ext_getElem (by simp [mets])
  intro i h1 h2
  simp [mets]
theorem mets_snoc (n : Nat) (seg : List Int) (t : Nat) (ht : t < n) : mets n (seg ++ [(t : Int)]) = (mets n seg).set t true := by
  apply List.ext_getElem (by simp [mets])
  intro i h1 h2
  rw [List.getElem_set]
  rw [mets_len] at h1
  rw [mets_at n _ i h1]
  by_cases h : t = i
  · subst h; simp
  · rw [if_neg h, mets_at n seg i h1]
    have : ¬ (i : Int) = (t : Int) := by omega
    simp [this]
theorem count_set_true (m : List Bool) (t : Nat) (ht : t < m.length) : (m.set t true).count true = m.count true + if m[t] = true then 0 else 1 := by
  rw [List.count_set ht]
  have hle : m[t] = true → 0 < m.count true := fun h => by
    have := List.count_pos_iff.2 (show true ∈ m from h ▸ List.getElem_mem ht)
    exact this
  by_cases h : m[t] = true
  · have := hle h
    simp [h]
    omega
  · simp [h]
theorem pad_set (n : Nat) (m : List Bool) (t : Nat) (ht : t < m.length) (v : Bool) : (pad n m).set t v = pad n (m.set t v) := by
  unfold pad
  rw [List.set_append_left _ _ ht]
theorem pad_get (n : Nat) (m : List Bool) (t : Nat) (ht : t < m.length) : (pad n m).getD t false = m[t] := by
  unfold pad
  rw [List.getD_eq_getElem?_getD, List.getElem?_append_left ht, List.getElem?_eq_getElem ht]
  rfl
theorem pad_nil (n : Nat) (hn : n ≤ 10) : pad n (mets n []) = List.replicate 10 false := by
  rw [mets_nil]
  show List.replicate n false ++ List.replicate (10 - n) false = _
  rw [List.replicate_append_replicate, show n + (10 - n) = 10 by omega]

/-- rounds from a piece on: seg is what was met of the round that goes on -/
def rounds (n : Nat) : List Int → List Int → Nat → Nat
  | [], _, r => r
  | t :: l, seg, r => if allIn n (seg ++ [t]) = true then rounds n l [] (r + 1) else rounds n l (seg ++ [t]) r
theorem rounds_loop (n : Nat) (hn1 : 1 ≤ n) (hn : n ≤ 10) (l : List Int) (hl : l.length ≤ 70000) (hr : ∀ t ∈ l, 0 ≤ t ∧ t < n) (d : Nat) : ∀ (k i r : Nat) (seg : List Int), i + d = l.length → d < k → r ≤ i → allIn n seg = false →
    sched_Rounds.l0 k n (pad n (mets n seg)) ((mets n seg).count true : Nat) r l i = some ((rounds n (l.drop i) seg r : Nat) : Int) := by
  induction d with
  | zero =>
    intro k i r seg hi hk hri hs
    obtain ⟨k, rfl⟩ : ∃ q, k = q + 1 := ⟨k - 1, by omega⟩
    simp only [sched_Rounds.l0]
    rw [if_neg (by omega), List.drop_of_length_le (by omega)]
    rfl
  | succ d ih =>
    intro k i r seg hi hk hri hs
    obtain ⟨k, rfl⟩ : ∃ q, k = q + 1 := ⟨k - 1, by omega⟩
    have ht := hr _ (rd_mem l i (by omega))
    obtain ⟨t, htt⟩ := Int.eq_ofNat_of_zero_le ht.1
    have htn : t < n := by omega
    have hml := mets_len n seg
    have hcl : (mets n seg).count true ≤ (mets n seg).length := List.count_le_length
    have hcs := count_set_true (mets n seg) t (by omega)
    have hsn := mets_snoc n seg t htn
    simp only [sched_Rounds.l0]
    rw [rd_drop l i (by omega), htt]
    simp only [rounds, Int.toNat_natCast]
    rw [if_pos (by omega), if_pos (by omega), if_pos (by omega), if_pos (by omega), if_pos (by omega), pad_set n _ t (by omega)]
    simp only [pad_get n _ t (show t < (mets n seg).length by omega)]
    have hmany : (if (mets n seg)[t]'(by omega) = true then (((mets n seg).count true : Nat) : Int) else wrap64 ((((mets n seg).count true : Nat) : Int) + 1)) = (((mets n (seg ++ [(t : Int)])).count true : Nat) : Int) := by
      rw [hsn, hcs]
      split
      · simp
      · unfold wrap64; omega
    rw [hmany, ← hsn]
    have hall : (((mets n (seg ++ [(t : Int)])).count true : Nat) : Int) = (n : Int) ↔ allIn n (seg ++ [(t : Int)]) = true := by
      have := count_all (mets n (seg ++ [(t : Int)]))
      rw [mets_len] at this
      unfold allIn
      rw [← this]
      omega
    by_cases h : allIn n (seg ++ [(t : Int)]) = true
    · rw [if_pos (hall.2 h), if_pos h, wrap_succ i (by omega), wrap_succ r (by omega)]
      have hempty : allIn n [] = false := by
        rw [Bool.eq_false_iff]
        intro h'
        have := (allIn_iff n []).1 h' 0 (by omega)
        simp at this
      have hz : (((mets n []).count true : Nat) : Int) = 0 := by rw [mets_nil]; simp [List.count_replicate]
      have := ih k (i + 1) (r + 1) [] (by omega) (by omega) (by omega) hempty
      rw [pad_nil n hn, hz] at this
      exact this
    · rw [if_neg (fun x => h (hall.1 x)), if_neg h, wrap_succ i (by omega)]
      exact ih k (i + 1) r (seg ++ [(t : Int)]) (by omega) (by omega) (by omega) (Bool.eq_false_iff.2 h)
theorem rounds_yes (n : Int) (l : List Int) (hl : l.length ≤ 70000) (k : Nat) (hk : 70010 ≤ k) : sched_Rounds.f k n l = some (if right n l = true then ((rounds n.toNat l [] 0 : Nat) : Int) else 0) := by
  unfold sched_Rounds.f
  rw [right_yes n l hl k (by omega), Option.bind_some]
  by_cases h : right n l = true
  · obtain ⟨h1, h2, h3⟩ := right_parts h
    obtain ⟨m, rfl⟩ := Int.eq_ofNat_of_zero_le (show 0 ≤ n by omega)
    rw [if_pos h, if_pos h, Int.toNat_natCast]
    have hempty : allIn m [] = false := by
      rw [Bool.eq_false_iff]
      intro h'
      have := (allIn_iff m []).1 h' 0 (by omega)
      simp at this
    have hz : (((mets m []).count true : Nat) : Int) = 0 := by rw [mets_nil]; simp [List.count_replicate]
    have := rounds_loop m (by omega) (by omega) l hl h3 l.length k 0 0 [] (by omega) (by omega) (by omega) hempty
    rw [pad_nil m (by omega), hz] at this
    exact this
  · rw [if_neg h, if_neg h]


/-! fair: how often each thread stands in a window -/
theorem take_snoc (l : List Int) (i : Nat) (h : i < l.length) : l.take (i + 1) = l.take i ++ [rd l (i : Int)] := by
  rw [rd_get l i h, List.take_append_getElem]
def cvec (n : Nat) (W : List Int) : List Int := (List.range n).map fun (t : Nat) => ((W.count (t : Int) : Nat) : Int)
theorem cvec_len (n : Nat) (W : List Int) : (cvec n W).length = n := by simp [cvec]
theorem cvec_rd (n : Nat) (W : List Int) (t : Nat) (h : t < n) : rd (cvec n W) (t : Int) = ((W.count (t : Int) : Nat) : Int) := by
  rw [rd_get _ t (by rw [cvec_len]; exact h)]
  simp [cvec]
theorem cvec_nil (n : Nat) : cvec n [] = List.replicate n 0 := by
  apply List.ext_getElem (by simp [cvec])
  intro i h1 h2
  simp [cvec]
theorem cvec_snoc (n : Nat) (W : List Int) (b : Nat) (h : b < n) : (cvec n W).set b (((W.count (b : Int) : Nat) : Int) + 1) = cvec n (W ++ [(b : Int)]) := by
  apply List.ext_getElem (by simp [cvec])
  intro i h1 h2
  rw [List.getElem_set]
  by_cases e : b = i
  · subst e
    rw [if_pos rfl]
    simp [cvec]
  · rw [if_neg e]
    have e' : ¬ (b : Int) = (i : Int) := by omega
    simp [cvec, List.count_append, List.count_cons, e, e']
theorem cvec_cons (n : Nat) (W : List Int) (a : Nat) (h : a < n) : (cvec n ((a : Int) :: W)).set a ((((((a : Int) :: W).count (a : Int) : Nat)) : Int) - 1) = cvec n W := by
  apply List.ext_getElem (by simp [cvec])
  intro i h1 h2
  rw [List.getElem_set]
  by_cases e : a = i
  · subst e
    rw [if_pos rfl]
    simp [cvec]
  · rw [if_neg e]
    have e' : ¬ (a : Int) = (i : Int) := by omega
    simp [cvec, List.count_cons, e, e']
def fromIn (seg : List Int) : Nat → Nat → Bool
  | 0, _ => true
  | e + 1, t => decide ((t : Int) ∈ seg) && fromIn seg e (t + 1)
theorem fromIn_iff (seg : List Int) (e : Nat) : ∀ t, fromIn seg e t = true ↔ ∀ u : Nat, t ≤ u → u < t + e → (u : Int) ∈ seg := by
  induction e with
  | zero => intro t; simp [fromIn]; intro u h1 h2; omega
  | succ e ih =>
    intro t
    simp only [fromIn, Bool.and_eq_true, decide_eq_true_eq, ih]
    constructor
    · intro h u h1 h2
      by_cases h3 : u = t
      · subst h3; exact h.1
      · exact h.2 u (by omega) (by omega)
    · intro h
      exact ⟨h t (by omega) (by omega), fun u h1 h2 => h u (by omega) (by omega)⟩
theorem fromIn_all (n : Nat) (seg : List Int) : fromIn seg n 0 = allIn n seg := by
  rw [Bool.eq_iff_iff, fromIn_iff, allIn_iff]
  constructor
  · intro h t ht; exact h t (by omega) (by omega)
  · intro h u _ hu; exact h u (by omega)
def win (w : Nat) (l : List Int) (i : Nat) : List Int := (l.take i).drop (i - w)
theorem win_early (w : Nat) (l : List Int) (i : Nat) (hi : i < l.length) (hw : i < w) : win w l (i + 1) = win w l i ++ [rd l (i : Int)] := by
  unfold win
  rw [show i + 1 - w = 0 by omega, show i - w = 0 by omega, List.drop_zero, List.drop_zero, take_snoc l i hi]
theorem win_late (w : Nat) (l : List Int) (i : Nat) (hi : i < l.length) (hw : w ≤ i) (h1 : 1 ≤ w) : win w l i ++ [rd l (i : Int)] = rd l ((i - w : Nat) : Int) :: win w l (i + 1) := by
  unfold win
  have hlen : i - w < (l.take i).length := by rw [List.length_take]; omega
  rw [rd_drop (l.take i) (i - w) hlen, take_snoc l i hi, show i + 1 - w = i - w + 1 by omega, List.drop_append_of_le_length (by rw [List.length_take]; omega)]
  rw [rd_get (l.take i) _ hlen, rd_get l (i - w) (by omega), List.getElem_take]
  rfl
def fairD (n w : Nat) (l : List Int) : Nat → Nat → Bool
  | 0, _ => true
  | d + 1, i => (decide (i + 1 < w) || allIn n (win w l (i + 1))) && fairD n w l d (i + 1)
def refD (n w : Nat) (l : List Int) : Nat → Nat → Bool
  | 0, _ => true
  | d + 1, i => allIn n ((l.take (i + w)).drop i) && refD n w l d (i + 1)
theorem fair_ref (n w : Nat) (l : List Int) (h1 : 1 ≤ w) (d : Nat) : ∀ i, fairD n w l d (i + (w - 1)) = refD n w l d i := by
  induction d with
  | zero => intro i; rfl
  | succ d ih =>
    intro i
    have := ih (i + 1)
    rw [show i + 1 + (w - 1) = i + (w - 1) + 1 by omega] at this
    simp only [fairD, refD]
    rw [this, decide_eq_false (by omega), show i + (w - 1) + 1 = i + w by omega]
    unfold win
    rw [show i + w - w = i by omega]
    simp
theorem fair_skip (n w : Nat) (l : List Int) (d c : Nat) : ∀ i, i + c + 1 ≤ w → fairD n w l (c + d) i = fairD n w l d (i + c) := by
  induction c with
  | zero => intro i h; simp
  | succ c ih =>
    intro i h
    rw [show c + 1 + d = c + d + 1 by omega]
    simp only [fairD]
    rw [decide_eq_true (by omega), ih (i + 1) (by omega), show i + 1 + c = i + (c + 1) by omega]
    simp
theorem fair_is (n w : Nat) (l : List Int) (h1 : 1 ≤ w) (hw : w ≤ l.length) : fairD n w l l.length 0 = refD n w l (l.length - w + 1) 0 := by
  rw [← fair_ref n w l h1, ← fair_skip n w l (l.length - w + 1) (w - 1) 0 (by omega), show w - 1 + (l.length - w + 1) = l.length by omega]
section
variable (n w : Nat) (l : List Int)
def FA (d : Nat) : Prop := ∀ (k i : Nat), i + d = l.length → 30 * d + 1 ≤ k → sched_Fair.l0 k n l w (cvec n (win w l i)) l l.length i = some (fairD n w l d i)
theorem fair_inner (hn : n ≤ 10) (h1 : 1 ≤ w) (hw : w ≤ l.length) (hl : l.length ≤ 70000) (d i : Nat) (hi : i + (d + 1) = l.length) (hA : FA n w l d) (e : Nat) : ∀ (k t : Nat), t + e = n → 30 * d + 4 + 2 * e ≤ k →
    sched_Fair.l1 k n l w (cvec n (win w l (i + 1))) i t l l.length i = some ((decide (i + 1 < w) || fromIn (win w l (i + 1)) e t) && fairD n w l d (i + 1)) := by
  have hw1 : wrap64 ((w : Int) - 1) = ((w - 1 : Nat) : Int) := by unfold wrap64; omega
  induction e with
  | zero =>
    intro k t ht hk
    obtain ⟨k, rfl⟩ : ∃ q, k = q + 2 := ⟨k - 2, by omega⟩
    simp only [sched_Fair.l1, fromIn]
    rw [if_neg (by omega)]
    simp only [sched_Fair.j4]
    rw [if_neg (by decide), wrap_succ i (by omega), hA k (i + 1) (by omega) (by omega)]
    simp
  | succ e ih =>
    intro k t ht hk
    obtain ⟨k, rfl⟩ : ∃ q, k = q + 2 := ⟨k - 2, by omega⟩
    simp only [sched_Fair.l1, fromIn]
    rw [if_pos (by omega), hw1]
    simp only [sched_Fair.j4]
    by_cases he : i + 1 < w
    · rw [decide_eq_false (show ¬ (i : Int) ≥ ((w - 1 : Nat) : Int) by omega), decide_eq_true he, if_neg (by decide), wrap_succ i (by omega), hA k (i + 1) (by omega) (by omega)]
      simp
    · rw [decide_eq_true (show (i : Int) ≥ ((w - 1 : Nat) : Int) by omega), decide_eq_false he, if_pos rfl, cvec_len, if_pos (by omega), if_pos (by omega), cvec_rd n _ t (by omega)]
      by_cases hm : (t : Int) ∈ win w l (i + 1)
      · have := List.count_pos_iff.2 hm
        rw [if_neg (by omega), wrap_succ t (by omega), ih k (t + 1) (by omega) (by omega), decide_eq_false he, decide_eq_true hm]
        simp
      · have := List.count_eq_zero.2 hm
        rw [if_pos (by omega), decide_eq_false hm]
        simp
theorem fair_loop (hn : n ≤ 10) (h1 : 1 ≤ w) (hw : w ≤ l.length) (hl : l.length ≤ 70000) (hr : ∀ t ∈ l, 0 ≤ t ∧ t < n) (d : Nat) : FA n w l d := by
  induction d with
  | zero =>
    intro k i hi hk
    obtain ⟨k, rfl⟩ : ∃ q, k = q + 1 := ⟨k - 1, by omega⟩
    simp only [sched_Fair.l0, fairD]
    rw [if_neg (by omega)]
  | succ d ih =>
    intro k i hi hk
    obtain ⟨k, rfl⟩ : ∃ q, k = q + 2 := ⟨k - 2, by omega⟩
    obtain ⟨hb1, hb2⟩ := hr _ (rd_mem l i (by omega))
    obtain ⟨b, hb⟩ := Int.eq_ofNat_of_zero_le hb1
    have fin := fair_inner n w l hn h1 hw hl d i hi ih n k 0 (by omega) (by omega)
    rw [fromIn_all] at fin
    have hc : ((win w l i).count (b : Int) : Int) ≤ 70000 := by
      have := List.count_le_length (a := (b : Int)) (l := win w l i)
      have : (win w l i).length ≤ l.length := by unfold win; rw [List.length_drop, List.length_take]; omega
      omega
    simp only [sched_Fair.l0, fairD]
    rw [if_pos (by omega), if_pos (by omega), if_pos (by omega), cvec_len, if_pos (by omega), if_pos (by omega), hb, cvec_rd n _ b (by omega), Int.toNat_natCast]
    rw [show wrap64 (((win w l i).count (b : Int) : Int) + 1) = ((win w l i).count (b : Int) : Int) + 1 by unfold wrap64; omega, cvec_snoc n _ b (by omega), Option.bind_some]
    by_cases hiw : i < w
    · rw [if_neg (by omega), ← hb, ← win_early w l i (by omega) hiw]
      simp only [sched_Fair.j2]
      exact fin
    · have hx : wrap64 ((i : Int) - (w : Int)) = ((i - w : Nat) : Int) := by unfold wrap64; omega
      obtain ⟨ha1, ha2⟩ := hr _ (rd_mem l (i - w) (by omega))
      obtain ⟨a, ha⟩ := Int.eq_ofNat_of_zero_le ha1
      have hc2 : (((rd l ((i - w : Nat) : Int) :: win w l (i + 1)).count (a : Int) : Nat) : Int) ≤ 70001 := by
        have := List.count_le_length (a := (a : Int)) (l := rd l ((i - w : Nat) : Int) :: win w l (i + 1))
        have : (win w l (i + 1)).length ≤ l.length := by unfold win; rw [List.length_drop, List.length_take]; omega
        rw [List.length_cons] at *
        omega
      rw [if_pos (by omega), hx, if_pos (by omega), if_pos (by omega), if_pos (by omega), if_pos (by omega), ← hb, win_late w l i (by omega) (by omega) h1]
      rw [ha] at hc2 ⊢
      rw [cvec_rd n _ a (by omega), Int.toNat_natCast]
      have hp : 1 ≤ ((a : Int) :: win w l (i + 1)).count (a : Int) := by simp
      rw [show wrap64 ((((a : Int) :: win w l (i + 1)).count (a : Int) : Int) - 1) = (((a : Int) :: win w l (i + 1)).count (a : Int) : Int) - 1 by unfold wrap64; omega, cvec_cons n _ a (by omega)]
      simp only [sched_Fair.j2]
      exact fin
end
/-- fair -/
def fair (n : Nat) (l : List Int) (w : Nat) : Bool := decide (l.length < w) || fairD n w l l.length 0
theorem fair_yes (n : Int) (l : List Int) (w : Int) (hl : l.length ≤ 70000) (hw2 : w ≤ 9223372036854775807) (k : Nat) (hk : 2200000 ≤ k) : sched_Fair.f k n l w = some (right n l && (decide (1 ≤ w) && fair n.toNat l w.toNat)) := by
  unfold sched_Fair.f
  rw [right_yes n l hl k (by omega), Option.bind_some]
  obtain ⟨k, rfl⟩ : ∃ q, k = q + 1 := ⟨k - 1, by omega⟩
  by_cases h : right n l = true
  · obtain ⟨h1, h2, h3⟩ := right_parts h
    obtain ⟨m, rfl⟩ := Int.eq_ofNat_of_zero_le (show 0 ≤ n by omega)
    rw [if_pos h, h, Bool.true_and]
    simp only [sched_Fair.j0]
    by_cases hw : w < 1
    · rw [decide_eq_true hw, if_pos rfl, decide_eq_false (by omega)]
      rfl
    · obtain ⟨v, rfl⟩ := Int.eq_ofNat_of_zero_le (show 0 ≤ w by omega)
      rw [decide_eq_false hw, if_neg (by decide), decide_eq_true (by omega), Bool.true_and, Int.toNat_natCast, Int.toNat_natCast]
      by_cases hlw : (l.length : Int) < (v : Int)
      · rw [if_pos hlw]
        unfold fair
        rw [decide_eq_true (by omega), Bool.true_or]
      · rw [if_neg hlw, if_pos (by omega), if_pos (by omega)]
        have := fair_loop m v l (by omega) (by omega) (by omega) hl h3 l.length k 0 (by omega) (by omega)
        rw [show win v l 0 = [] by simp [win], cvec_nil] at this
        refine Eq.trans this ?_
        unfold fair
        rw [decide_eq_false (by omega), Bool.false_or]
  · rw [if_neg h]
    simp [sched_Fair.j0, h]


/-! the references -/
theorem refright_loop (n : Int) (l : List Int) (hl : l.length ≤ 70000) (d : Nat) : ∀ (k i : Nat) (b : Bool), i + d = l.length → d < k →
    sakiaref28_Right.l0 k n l b i = some (b && (l.drop i).all (okt n)) := by
  induction d with
  | zero =>
    intro k i b hi hk
    obtain ⟨k, rfl⟩ : ∃ m, k = m + 1 := ⟨k - 1, by omega⟩
    simp only [sakiaref28_Right.l0]
    rw [if_neg (by omega), List.drop_of_length_le (by omega)]
    simp
  | succ d ih =>
    intro k i b hi hk
    obtain ⟨k, rfl⟩ : ∃ m, k = m + 1 := ⟨k - 1, by omega⟩
    simp only [sakiaref28_Right.l0]
    rw [if_pos (by omega), rd_drop l i (by omega), List.all_cons, wrap_succ i (by omega)]
    cases b with
    | false =>
      rw [if_neg (by decide), ih k (i + 1) _ (by omega) (by omega)]
      simp
    | true =>
      rw [if_pos rfl, if_pos (by omega)]
      by_cases h1 : rd l i ≥ 0
      · rw [if_pos h1, ih k (i + 1) _ (by omega) (by omega)]
        rw [show okt n (rd l i) = decide (rd l i < n) by unfold okt; rw [decide_eq_true (show 0 ≤ rd l i by omega), Bool.true_and]]
        simp
      · rw [if_neg h1, ih k (i + 1) _ (by omega) (by omega)]
        rw [show okt n (rd l i) = false by unfold okt; rw [decide_eq_false (show ¬ 0 ≤ rd l i by omega), Bool.false_and]]
        simp
theorem refright_yes (n : Int) (l : List Int) (hl : l.length ≤ 70000) (k : Nat) (hk : l.length + 2 ≤ k) : sakiaref28_Right.f k n l = some (right n l) := by
  obtain ⟨k, rfl⟩ : ∃ m, k = m + 1 := ⟨k - 1, by omega⟩
  unfold sakiaref28_Right.f right thr
  by_cases h : n > 0
  · rw [if_pos h, decide_eq_true (show 1 ≤ n by omega), Bool.true_and]
    simp only [sakiaref28_Right.j0]
    refine (refright_loop n l hl l.length k 0 _ (by omega) (by omega)).trans ?_
    rw [show decide (n < 11) = decide (n ≤ 10) by rw [Bool.eq_iff_iff]; simp; omega]
    simp
  · rw [if_neg h, decide_eq_false (show ¬ 1 ≤ n by omega)]
    simp only [sakiaref28_Right.j0]
    refine (refright_loop n l hl l.length k 0 _ (by omega) (by omega)).trans ?_
    simp
theorem count_loop (l : List Int) (t : Int) (hl : l.length ≤ 70000) (d : Nat) : ∀ (k i c : Nat), i + d = l.length → d < k → c ≤ i →
    sakiaref28_count.l0 k l t c i = some (((c + (l.drop i).count t : Nat)) : Int) := by
  induction d with
  | zero =>
    intro k i c hi hk hc
    obtain ⟨k, rfl⟩ : ∃ m, k = m + 1 := ⟨k - 1, by omega⟩
    simp only [sakiaref28_count.l0]
    rw [if_neg (by omega), List.drop_of_length_le (by omega)]
    rfl
  | succ d ih =>
    intro k i c hi hk hc
    obtain ⟨k, rfl⟩ : ∃ m, k = m + 1 := ⟨k - 1, by omega⟩
    simp only [sakiaref28_count.l0]
    rw [if_pos (by omega), if_pos (by omega), rd_drop l i (by omega), wrap_succ i (by omega)]
    by_cases h : rd l i = t
    · rw [if_pos h, wrap_succ c (by omega), ih k (i + 1) (c + 1) (by omega) (by omega) (by omega), h, List.count_cons_self]
      rw [show c + 1 + List.count t (l.drop (i + 1)) = c + (List.count t (l.drop (i + 1)) + 1) by omega]
    · rw [if_neg h, ih k (i + 1) c (by omega) (by omega) (by omega), List.count_cons_of_ne h]
theorem count_yes (l : List Int) (t : Int) (hl : l.length ≤ 70000) (k : Nat) (hk : l.length < k) : sakiaref28_count.f k l t = some ((l.count t : Nat) : Int) := by
  have := count_loop l t hl l.length k 0 0 (by omega) hk (by omega)
  simpa [sakiaref28_count.f] using this
theorem refcounts_loop (n : Nat) (l : List Int) (hn : n ≤ 10) (hl : l.length ≤ 70000) (d : Nat) : ∀ (k i : Nat), i + d = n → d + 70002 ≤ k →
    sakiaref28_Counts.l0 k n l (cvec i l) i = some (cvec n l) := by
  induction d with
  | zero =>
    intro k i hi hk
    obtain ⟨k, rfl⟩ : ∃ m, k = m + 1 := ⟨k - 1, by omega⟩
    simp only [sakiaref28_Counts.l0]
    rw [if_neg (by omega), show i = n by omega]
  | succ d ih =>
    intro k i hi hk
    obtain ⟨k, rfl⟩ : ∃ m, k = m + 1 := ⟨k - 1, by omega⟩
    simp only [sakiaref28_Counts.l0]
    rw [if_pos (by omega), count_yes l _ hl k (by omega), Option.bind_some, cvec_len, if_pos (by omega), wrap_succ i (by omega)]
    rw [show cvec i l ++ [((l.count (i : Int) : Nat) : Int)] = cvec (i + 1) l by simp [cvec, List.range_succ]]
    exact ih k (i + 1) (by omega) (by omega)
theorem refcounts_yes (n : Nat) (l : List Int) (hn : n ≤ 10) (hl : l.length ≤ 70000) (k : Nat) (hk : 70020 ≤ k) : sakiaref28_Counts.f k n l = some (cvec n l) :=
  refcounts_loop n l hn hl n k 0 (by omega) (by omega)
theorem counts_loop (n : Nat) (l : List Int) (hl : l.length ≤ 70000) (hr : ∀ t ∈ l, 0 ≤ t ∧ t < n) (d : Nat) : ∀ (k i : Nat), i + d = l.length → d < k →
    sched_Counts.l0 k (cvec n (l.take i)) l l.length i = some (cvec n l) := by
  induction d with
  | zero =>
    intro k i hi hk
    obtain ⟨k, rfl⟩ : ∃ m, k = m + 1 := ⟨k - 1, by omega⟩
    simp only [sched_Counts.l0]
    rw [if_neg (by omega), List.take_of_length_le (by omega)]
  | succ d ih =>
    intro k i hi hk
    obtain ⟨k, rfl⟩ : ∃ m, k = m + 1 := ⟨k - 1, by omega⟩
    obtain ⟨hb1, hb2⟩ := hr _ (rd_mem l i (by omega))
    obtain ⟨b, hb⟩ := Int.eq_ofNat_of_zero_le hb1
    have hc : ((l.take i).count (b : Int) : Int) ≤ 70000 := by
      have := List.count_le_length (a := (b : Int)) (l := l.take i)
      rw [List.length_take] at this
      omega
    simp only [sched_Counts.l0]
    rw [if_pos (by omega), if_pos (by omega), if_pos (by omega), cvec_len, if_pos (by omega), if_pos (by omega), hb, cvec_rd n _ b (by omega), Int.toNat_natCast]
    rw [show wrap64 (((l.take i).count (b : Int) : Int) + 1) = ((l.take i).count (b : Int) : Int) + 1 by unfold wrap64; omega, cvec_snoc n _ b (by omega), ← hb, ← take_snoc l i (by omega), wrap_succ i (by omega)]
    exact ih k (i + 1) (by omega) (by omega)
theorem counts_yes (n : Int) (l : List Int) (hl : l.length ≤ 70000) (k : Nat) (hk : 70010 ≤ k) : sched_Counts.f k n l = some (if right n l = true then cvec n.toNat l else []) := by
  unfold sched_Counts.f
  rw [right_yes n l hl k (by omega), Option.bind_some]
  by_cases h : right n l = true
  · obtain ⟨h1, h2, h3⟩ := right_parts h
    obtain ⟨m, rfl⟩ := Int.eq_ofNat_of_zero_le (show 0 ≤ n by omega)
    rw [if_pos h, if_pos h, Int.toNat_natCast, if_pos (by omega), if_pos (by omega)]
    have := counts_loop m l hl h3 l.length k 0 (by omega) (by omega)
    rw [List.take_zero, cvec_nil] at this
    exact this
  · rw [if_neg h, if_neg h]
theorem all_loop (n : Nat) (l : List Int) (hn : n ≤ 10) (hl : l.length ≤ 70000) (d : Nat) : ∀ (k i : Nat), i + d = n → d + 70002 ≤ k →
    sakiaref28_All.l0 k n l i = some (fromIn l d i) := by
  induction d with
  | zero =>
    intro k i hi hk
    obtain ⟨k, rfl⟩ : ∃ m, k = m + 1 := ⟨k - 1, by omega⟩
    simp only [sakiaref28_All.l0, fromIn]
    rw [if_neg (by omega)]
  | succ d ih =>
    intro k i hi hk
    obtain ⟨k, rfl⟩ : ∃ m, k = m + 1 := ⟨k - 1, by omega⟩
    simp only [sakiaref28_All.l0, fromIn]
    rw [if_pos (by omega), count_yes l _ hl k (by omega), Option.bind_some]
    by_cases h : (i : Int) ∈ l
    · have := List.count_pos_iff.2 h
      rw [if_neg (by omega), wrap_succ i (by omega), ih k (i + 1) (by omega) (by omega), decide_eq_true h, Bool.true_and]
    · have := List.count_eq_zero.2 h
      rw [if_pos (by omega), decide_eq_false h, Bool.false_and]
theorem all_yes (n : Nat) (l : List Int) (hn : n ≤ 10) (hl : l.length ≤ 70000) (k : Nat) (hk : 70020 ≤ k) : sakiaref28_All.f k n l = some (allIn n l) := by
  rw [← fromIn_all]
  exact all_loop n l hn hl n k 0 (by omega) (by omega)
theorem refrounds_loop (n : Nat) (l : List Int) (hn : n ≤ 10) (hl : l.length ≤ 70000) (d : Nat) : ∀ (k i r g : Nat), i + d = l.length → d + 70100 ≤ k → g ≤ i → r ≤ i →
    sakiaref28_Rounds.l0 k n l r g ((i + 1 : Nat) : Int) = some ((rounds n (l.drop i) ((l.take i).drop g) r : Nat) : Int) := by
  induction d with
  | zero =>
    intro k i r g hi hk hg hr
    obtain ⟨k, rfl⟩ : ∃ m, k = m + 1 := ⟨k - 1, by omega⟩
    simp only [sakiaref28_Rounds.l0]
    rw [if_neg (by omega), List.drop_of_length_le (by omega)]
    rfl
  | succ d ih =>
    intro k i r g hi hk hg hr
    obtain ⟨k, rfl⟩ : ∃ m, k = m + 1 := ⟨k - 1, by omega⟩
    simp only [sakiaref28_Rounds.l0]
    rw [if_pos (by omega), if_pos (by omega), if_pos (by omega), Int.toNat_natCast, Int.toNat_natCast, all_yes n _ hn (by rw [List.length_drop, List.length_take]; omega) k (by omega), Option.bind_some, rd_drop l i (by omega), wrap_succ (i + 1) (by omega)]
    simp only [rounds]
    rw [show (l.take i).drop g ++ [rd l (i : Int)] = (l.take (i + 1)).drop g by rw [take_snoc l i (by omega), List.drop_append_of_le_length (by rw [List.length_take]; omega)]]
    by_cases h : allIn n ((l.take (i + 1)).drop g) = true
    · rw [if_pos h, if_pos h, wrap_succ r (by omega), ih k (i + 1) (r + 1) (i + 1) (by omega) (by omega) (by omega) (by omega)]
      rw [show (l.take (i + 1)).drop (i + 1) = [] from List.drop_of_length_le (by rw [List.length_take]; omega)]
    · rw [if_neg h, if_neg h, ih k (i + 1) r g (by omega) (by omega) (by omega) (by omega)]
theorem refrounds_yes (n : Nat) (l : List Int) (hn : n ≤ 10) (hl : l.length ≤ 70000) (k : Nat) (hk : 150000 ≤ k) : sakiaref28_Rounds.f k n l = some ((rounds n l [] 0 : Nat) : Int) := by
  have := refrounds_loop n l hn hl l.length k 0 0 0 (by omega) (by omega) (by omega) (by omega)
  simpa [sakiaref28_Rounds.f] using this
theorem reffair_loop (n w : Nat) (l : List Int) (hn : n ≤ 10) (hw : w ≤ l.length) (hl : l.length ≤ 70000) (d : Nat) : ∀ (k i : Nat), i + d = l.length - w + 1 → d + 70100 ≤ k →
    sakiaref28_Fair.l0 k n l w i = some (refD n w l d i) := by
  have hx : wrap64 ((l.length : Int) - (w : Int)) = ((l.length - w : Nat) : Int) := by unfold wrap64; omega
  induction d with
  | zero =>
    intro k i hi hk
    obtain ⟨k, rfl⟩ : ∃ m, k = m + 1 := ⟨k - 1, by omega⟩
    simp only [sakiaref28_Fair.l0, refD]
    rw [hx, if_neg (by omega)]
  | succ d ih =>
    intro k i hi hk
    obtain ⟨k, rfl⟩ : ∃ m, k = m + 1 := ⟨k - 1, by omega⟩
    have hy : wrap64 ((i : Int) + (w : Int)) = ((i + w : Nat) : Int) := by unfold wrap64; omega
    simp only [sakiaref28_Fair.l0, refD]
    rw [hx, hy, if_pos (by omega), if_pos (by omega), if_pos (by omega), if_pos (by omega), Int.toNat_natCast, Int.toNat_natCast, all_yes n _ hn (by rw [List.length_drop, List.length_take]; omega) k (by omega), Option.bind_some]
    cases allIn n ((l.take (i + w)).drop i) with
    | true => rw [if_pos rfl, wrap_succ i (by omega), ih k (i + 1) (by omega) (by omega), Bool.true_and]
    | false => rw [if_neg (by decide), Bool.false_and]
theorem reffair_yes (n w : Nat) (l : List Int) (hn : n ≤ 10) (h1 : 1 ≤ w) (hw : w ≤ l.length) (hl : l.length ≤ 70000) (k : Nat) (hk : 150000 ≤ k) : sakiaref28_Fair.f k n l w = some (fair n l w) := by
  unfold fair
  rw [decide_eq_false (by omega), Bool.false_or, fair_is n w l h1 hw]
  exact reffair_loop n w l hn hw hl _ k 0 (by omega) (by omega)
def act (t : Int) : S45 := ⟨t, ⟨0, 0, []⟩⟩
theorem acts_loop (l : List Int) (hl : l.length ≤ 70000) (d : Nat) : ∀ (k i : Nat), i + d = l.length → d < k →
    sched_Acts.l0 k ((l.take i).map act) l l.length i = some (l.map act) := by
  induction d with
  | zero =>
    intro k i hi hk
    obtain ⟨k, rfl⟩ : ∃ m, k = m + 1 := ⟨k - 1, by omega⟩
    simp only [sched_Acts.l0]
    rw [if_neg (by omega), List.take_of_length_le (by omega)]
  | succ d ih =>
    intro k i hi hk
    obtain ⟨k, rfl⟩ : ∃ m, k = m + 1 := ⟨k - 1, by omega⟩
    simp only [sched_Acts.l0]
    rw [if_pos (by omega), if_pos (by omega), if_pos (by omega), if_pos (by rw [List.length_map, List.length_take]; omega), wrap_succ i (by omega)]
    have := ih k (i + 1) (by omega) (by omega)
    rw [take_snoc l i (by omega), List.map_append] at this
    exact this
theorem acts_yes (l : List Int) (hl : l.length ≤ 70000) (k : Nat) (hk : 70010 ≤ k) : sched_Acts.f k l = some (l.map act) :=
  acts_loop l hl l.length k 0 (by omega) (by omega)
theorem acts_rd (l : List Int) (i : Nat) (h : i < l.length) : rd_T45 (l.map act) (i : Int) = act (rd l (i : Int)) := by
  rw [rd_get l i h]
  simp [rd_T45, List.getD_eq_getElem?_getD, h]

theorem tells_loop (n w : Int) (l : List Int) (hl : l.length ≤ 300) (hw2 : w ≤ 9223372036854775807) (d : Nat) : ∀ (k i : Nat), i + d = l.length → d + 3000000 ≤ k →
    sakialaw28_SchedTells.l0 k n l w (l.map act) i = some true := by
  induction d with
  | zero =>
    intro k i hi hk
    obtain ⟨k, rfl⟩ : ∃ m, k = m + 2 := ⟨k - 2, by omega⟩
    simp only [sakialaw28_SchedTells.l0]
    rw [if_neg (by omega), refright_yes n l (by omega) _ (by omega), Option.bind_some, counts_yes n l (by omega) _ (by omega), Option.bind_some, rounds_yes n l (by omega) _ (by omega), Option.bind_some]
    by_cases h : right n l = true
    · obtain ⟨h1, h2, h3⟩ := right_parts h
      obtain ⟨m, rfl⟩ := Int.eq_ofNat_of_zero_le (show 0 ≤ n by omega)
      rw [if_pos h, refcounts_yes m l (by omega) (by omega) _ (by omega), Option.bind_some, if_pos h, Int.toNat_natCast, same05 _ (by rw [cvec_len]; omega) _ (by rw [cvec_len]; omega), Option.bind_some, if_pos rfl, if_pos h, refrounds_yes m l (by omega) (by omega) _ (by omega), Option.bind_some, if_pos rfl]
      have far : ∀ b x : Bool, b = decide (w ≥ 1) → x = false → ¬ (1 ≤ w ∧ w ≤ l.length) → sakialaw28_SchedTells.j1 (k + 1) m l w b x = some true := by
        intro b x hb hx hw
        simp only [sakialaw28_SchedTells.j1]
        rw [if_neg (by rw [hx]; decide), fair_yes _ l w (by omega) hw2 k (by omega), Option.bind_some, h, Bool.true_and, if_pos, live_yes k (by omega)]
        · rfl
        · rw [hb]
          by_cases hw1 : 1 ≤ w
          · rw [decide_eq_true (show w ≥ 1 from hw1)]
            unfold fair
            rw [decide_eq_true (by omega)]
            rfl
          · rw [decide_eq_false (show ¬ w ≥ 1 from hw1)]
            rfl
      by_cases hw1 : w ≥ 1
      · rw [if_pos hw1]
        by_cases hw3 : w ≤ (l.length : Int)
        · obtain ⟨v, rfl⟩ := Int.eq_ofNat_of_zero_le (show 0 ≤ w by omega)
          simp only [sakialaw28_SchedTells.j1]
          rw [decide_eq_true hw3, if_pos rfl, reffair_yes m v l (by omega) (by omega) (by omega) (by omega) k (by omega), Option.bind_some, fair_yes _ l _ (by omega) hw2 k (by omega), Option.bind_some, h, decide_eq_true (show (1 : Int) ≤ (v : Int) by omega), Int.toNat_natCast, Int.toNat_natCast, if_pos (by simp), live_yes k (by omega)]
          rfl
        · exact far _ _ rfl (decide_eq_false hw3) (by omega)
      · rw [if_neg hw1]
        exact far _ _ rfl rfl (by omega)
    · rw [if_neg h, if_neg h, if_neg h, Option.bind_some, if_pos (by rfl), Option.bind_some, if_pos (show (0 : Int) = 0 from rfl), fair_yes n l w (by omega) hw2 _ (by omega), Option.bind_some, if_neg (by simp [h]), live_yes _ (by omega)]
      rfl
  | succ d ih =>
    intro k i hi hk
    obtain ⟨k, rfl⟩ : ∃ m, k = m + 1 := ⟨k - 1, by omega⟩
    simp only [sakialaw28_SchedTells.l0]
    rw [if_pos (by omega), if_pos (by omega), List.length_map, if_pos (by omega), acts_rd l i (by omega), if_pos (by rfl), if_pos (by rfl), wrap_succ i (by omega)]
    exact ih k (i + 1) (by omega) (by omega)
theorem SchedTells : sakialaw28_SchedTells.Pure := by
  intro n l w hn hl1 hl2 hlx hw
  simp only [Lit.wf, decide_eq_true_eq, Bool.and_eq_true, IntKind.min, IntKind.max, IntKind.signed, IntKind.bits] at hw
  simp at hw
  obtain ⟨K, hK⟩ : ∃ K : Nat, 4000000 < K := ⟨4000000 + 1, by omega⟩
  refine ⟨K, ?_⟩
  unfold sakialaw28_SchedTells.f
  by_cases h : (l.length : Int) > 300
  · rw [if_pos h, live_yes K (by omega)]
    rfl
  · rw [if_neg h, right_yes n l (by omega) K (by omega), Option.bind_some, refright_yes n l (by omega) K (by omega), Option.bind_some, if_neg (by simp), acts_yes l (by omega) K (by omega), Option.bind_some, if_pos (by simp)]
    exact tells_loop n w l (by omega) hw.2 l.length K 0 (by omega) (by omega)


end Go.Proofs.Ytflcjdpnpdkdeaa.Pure
