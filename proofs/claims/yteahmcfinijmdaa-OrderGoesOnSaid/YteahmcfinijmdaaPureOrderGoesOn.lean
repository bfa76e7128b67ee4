/- It is proved that the law OrderGoesOn answers true for every input: what the program tells is what the reference tells. Conditions: none. -/
import Derived.Test.YteahmcfinijmdaaQOrderGoesOnx7
namespace Go.Proofs.Yteahmcfinijmdaa.Pure
open Go Go.RowKit Go.Proofs.Yteahmcfinijmdaa.QOrderGoesOn Go.Proofs.YteahmcfinijmdaaW.PrintWords Go.Proofs.YteahmcfinijmdaaW.PrintLast Go.Proofs.YteahmcfinijmdaaW.PrintMore
set_option linter.unusedVariables false
set_option linter.unusedSimpArgs false

/-! What the clocks tell (no program in sight). -/
theorem rd_get2 (c : List Int) (u : Nat) : rd c (u : Int) = (c[u]?).getD 0 := by simp [rd, List.getD_eq_getElem?_getD]
theorem rd_set (c : List Int) (i u : Nat) (v : Int) (h : i < c.length) : rd (c.set i v) (u : Int) = if u = i then v else rd c (u : Int) := by
  rw [rd_get2, rd_get2, List.getElem?_set]
  by_cases e : i = u
  · subst e; simp [h]
  · rw [if_neg e, if_neg (fun e2 => e e2.symm)]
theorem rd_rep (n u : Nat) : rd (List.replicate n 0) (u : Int) = 0 := by
  rw [rd_get2, List.getElem?_replicate]
  split <;> rfl
theorem getD_set2 (K : List (List Int)) (t j : Nat) (c : List Int) (ht : t < K.length) : (K.set t c).getD j [] = if j = t then c else K.getD j [] := by
  simp only [List.getD_eq_getElem?_getD]
  rw [List.getElem?_set]
  by_cases e : t = j
  · subst e; simp [ht]
  · rw [if_neg e, if_neg (fun e2 => e e2.symm)]
/-- a clock of n threads, of at most m -/
def Cl (n m : Nat) (c : List Int) : Prop := c.length = n ∧ ∀ u : Nat, u < n → 0 ≤ rd c (u : Int) ∧ rd c (u : Int) ≤ (m : Int)
theorem Cl.right {n m : Nat} {c : List Int} (h : Cl n m c) (hn : 1 ≤ n) (hn2 : n ≤ 10) (hm : m ≤ 1099511627776) : right c = true :=
  right_mk (by rw [h.1]; omega) (by rw [h.1]; omega) (fun i hi => by have := h.2 i (by rw [← h.1]; exact hi); omega)
def InS (n : Nat) (s : CS) (c : List Int) : Prop := (∃ t, t < n ∧ c = s.K.getD t []) ∨ (∃ x, s.M x = some c) ∨ c ∈ s.O
structure Inv (n : Nat) (th : Nat → Nat) (i : Nat) (s : CS) : Prop where
  K : s.K.length = n
  O : s.O.length = i
  cl : ∀ c, InS n s c → Cl n i c
  own : ∀ c, InS n s c → ∀ u : Nat, u < n → rd c (u : Int) ≤ rd (s.K.getD u []) (u : Int)
  last : ∀ j, j < i → ∀ u : Nat, u < n → rd (s.O.getD j []) (u : Int) ≤ rd (s.K.getD (th j) []) (u : Int)
  clo : ∀ c, InS n s c → ∀ j, j < i → rd (s.O.getD j []) (th j : Int) ≤ rd c (th j : Int) → ∀ u : Nat, u < n → rd (s.O.getD j []) (u : Int) ≤ rd c (u : Int)
theorem Inv.start (n : Nat) (th : Nat → Nat) : Inv n th 0 (cs0 n) := by
  have hk : ∀ c, InS n (cs0 n) c → c = List.replicate n 0 := by
    intro c h
    rcases h with ⟨t, ht, e⟩ | ⟨x, e⟩ | e
    · rw [e]; simp [cs0, List.getD_eq_getElem?_getD, List.getElem?_replicate, ht]
    · simp [cs0] at e
    · simp [cs0] at e
  refine ⟨by simp [cs0], by simp [cs0], fun c h => ?_, fun c h u hu => ?_, fun j hj => absurd hj (by omega), fun c h j hj => absurd hj (by omega)⟩
  · rw [hk c h]
    exact ⟨by simp, fun u _ => by rw [rd_rep]; simp⟩
  · rw [hk c h]
    have : (cs0 n).K.getD u [] = List.replicate n 0 := by simp [cs0, List.getD_eq_getElem?_getD, List.getElem?_replicate, hu]
    rw [this]
    exact Int.le_refl _
/-- what an access joins with: its cell's clock, or its thread's own -/
def mixC (s : CS) (a : S33) (t : Nat) : List Int := if (s.M a.f2).isSome && (atomB a.f1 && rdB a.f1) then (s.M a.f2).getD [] else s.K.getD t []
theorem mixC_in {n : Nat} {s : CS} {a : S33} {t : Nat} (ht : t < n) : InS n s (mixC s a t) := by
  unfold mixC
  split
  · rename_i h
    simp only [Bool.and_eq_true] at h
    obtain ⟨c, hc⟩ := Option.isSome_iff_exists.1 h.1
    rw [hc]
    exact .inr (.inl ⟨_, hc⟩)
  · exact .inl ⟨t, ht, rfl⟩
theorem tick_rd {n i t : Nat} {c : List Int} (h : Cl n i c) (hn : 1 ≤ n) (hn2 : n ≤ 10) (hi : i < 1099511627776) (ht : t < n) :
    (tick c (t : Int)).length = n ∧ ∀ u : Nat, u < n → rd (tick c (t : Int)) (u : Int) = rd c (u : Int) + if u = t then 1 else 0 := by
  have hr := h.right hn hn2 (by omega)
  have h2 := h.2 t ht
  unfold tick
  rw [if_pos ⟨hr, by omega, by rw [h.1]; omega, by omega⟩]
  refine ⟨by rw [List.length_set]; exact h.1, fun u hu => ?_⟩
  rw [Int.toNat_natCast, rd_set _ _ _ _ (by rw [h.1]; exact ht)]
  by_cases e : u = t
  · subst e; simp
  · rw [if_neg e, if_neg e]; omega
theorem clk1_rd {n i t : Nat} {th : Nat → Nat} {s : CS} {a : S33} (h : Inv n th i s) (hn : 1 ≤ n) (hn2 : n ≤ 10) (hi : i < 1099511627776) (ht : t < n) (ha : a.f0 = (t : Int)) :
    (clk1 s a).length = n ∧ ∀ u : Nat, u < n → rd (clk1 s a) (u : Int) = max (rd (s.K.getD t []) (u : Int) + if u = t then 1 else 0) (rd (mixC s a t) (u : Int)) := by
  have hK := h.cl _ (.inl ⟨t, ht, rfl⟩)
  obtain ⟨t1, t2⟩ := tick_rd hK hn hn2 hi ht
  unfold clk1 mixC
  rw [ha, Int.toNat_natCast]
  split
  · rename_i hc
    simp only [Bool.and_eq_true] at hc
    obtain ⟨m, hm⟩ := Option.isSome_iff_exists.1 hc.1
    rw [hm]
    simp only [Option.getD_some]
    have hM := h.cl m (.inr (.inl ⟨_, hm⟩))
    have tC : Cl n (i + 1) (tick (s.K.getD t []) (t : Int)) := ⟨t1, fun u hu => by have := hK.2 u hu; rw [t2 u hu]; split <;> omega⟩
    have hb : both (tick (s.K.getD t []) (t : Int)) m = true := both_mk (tC.right hn hn2 (by omega)) (hM.right hn hn2 (by omega)) (by rw [t1, hM.1])
    unfold join
    rw [if_pos hb]
    refine ⟨by rw [joinZ_len (by rw [t1, hM.1]), t1], fun u hu => ?_⟩
    rw [joinZ_rd (by rw [t1, hM.1]) u (by rw [t1]; exact hu), t2 u hu]
    unfold mx
    split <;> omega
  · refine ⟨t1, fun u hu => ?_⟩
    rw [t2 u hu]
    split <;> omega
theorem Inv.step {n i t : Nat} {th : Nat → Nat} {s : CS} {a : S33} (h : Inv n th i s) (hn : 1 ≤ n) (hn2 : n ≤ 10) (hi : i < 1099511627776) (ht : t < n) (ha : a.f0 = (t : Int)) (hth : th i = t) (hall : ∀ j, j < i → th j < n) : Inv n th (i + 1) (cstep s a) := by
  obtain ⟨l1, l2⟩ := clk1_rd h hn hn2 hi ht ha
  have hm := mixC_in (s := s) (a := a) ht
  have hmo := h.own _ hm
  have hmc := h.clo _ hm
  have hml := h.cl _ hm
  have hKi : InS n s (s.K.getD t []) := .inl ⟨t, ht, rfl⟩
  have hKo := h.own _ hKi
  have hKc := h.clo _ hKi
  have hKl := h.cl _ hKi
  have hs : cstep s a = ⟨s.K.set t (clk1 s a), clkM s a (clk1 s a), s.O ++ [clk1 s a]⟩ := by unfold cstep; rw [ha, Int.toNat_natCast]
  rw [hs]
  clear hs
  generalize hc : clk1 s a = c at *
  generalize mixC s a t = m at *
  have hin : ∀ x, InS n ⟨s.K.set t c, clkM s a c, s.O ++ [c]⟩ x → x = c ∨ InS n s x := by
    intro x hx
    rcases hx with ⟨u, hu, e⟩ | ⟨y, e⟩ | e
    · simp only at e
      rw [getD_set2 _ _ _ _ (by rw [h.K]; exact ht)] at e
      by_cases e2 : u = t
      · rw [if_pos e2] at e; exact .inl e
      · rw [if_neg e2] at e; exact .inr (.inl ⟨u, hu, e⟩)
    · simp only [clkM] at e
      split at e
      · simp only at e
        by_cases e2 : y = a.f2
        · rw [if_pos e2] at e; exact .inl (Option.some.inj e).symm
        · rw [if_neg e2] at e; exact .inr (.inr (.inl ⟨y, e⟩))
      · exact .inr (.inr (.inl ⟨y, e⟩))
    · rcases List.mem_append.1 e with e | e
      · exact .inr (.inr (.inr e))
      · exact .inl (by simpa using e)
  have hct : rd c (t : Int) = rd (s.K.getD t []) (t : Int) + 1 := by
    have := l2 t ht
    have := hmo t ht
    rw [if_pos rfl] at *
    omega
  have hcK : ∀ u : Nat, u < n → rd (s.K.getD t []) (u : Int) ≤ rd c (u : Int) := fun u hu => by have := l2 u hu; split at this <;> omega
  have hcm : ∀ u : Nat, u < n → rd m (u : Int) ≤ rd c (u : Int) := fun u hu => by have := l2 u hu; omega
  have hO : ∀ j, j < i → (s.O ++ [c]).getD j [] = s.O.getD j [] := fun j hj => by
    simp only [List.getD_eq_getElem?_getD]
    rw [List.getElem?_append_left (by rw [h.O]; exact hj)]
  have hOi : (s.O ++ [c]).getD i [] = c := by
    simp only [List.getD_eq_getElem?_getD]
    rw [List.getElem?_append_right (by rw [h.O]; omega), h.O]
    simp
  have hKn : ∀ u, (s.K.set t c).getD u [] = if u = t then c else s.K.getD u [] := fun u => getD_set2 _ _ _ _ (by rw [h.K]; exact ht)
  refine ⟨by simpa using h.K, by simp [h.O], fun x hx => ?_, fun x hx u hu => ?_, fun j hj u hu => ?_, fun x hx j hj hle u hu => ?_⟩
  · rcases hin x hx with rfl | hx
    · refine ⟨l1, fun u hu => ?_⟩
      have h1 := l2 u hu
      have h2 := hKl.2 u hu
      have h3 := hml.2 u hu
      split at h1 <;> omega
    · have := h.cl x hx
      exact ⟨this.1, fun u hu => by have := this.2 u hu; omega⟩
  · simp only [hKn]
    by_cases e : u = t
    · rw [if_pos e]
      subst e
      rcases hin x hx with rfl | hx
      · exact Int.le_refl _
      · have := h.own x hx u hu; omega
    · rw [if_neg e]
      rcases hin x hx with rfl | hx
      · have h1 := l2 u hu
        have h2 := hmo u hu
        have h3 := hKo u hu
        rw [if_neg e] at h1
        omega
      · exact h.own x hx u hu
  · simp only [hKn]
    by_cases e : j < i
    · rw [hO j e]
      have h1 := h.last j e u hu
      by_cases e2 : th j = t
      · rw [if_pos e2]
        have h2 := hcK u hu
        rw [e2] at h1
        omega
      · rw [if_neg e2]; exact h1
    · obtain rfl : j = i := by omega
      rw [hOi, if_pos hth]
      exact Int.le_refl _
  · simp only at hle ⊢
    by_cases e : j < i
    · rw [hO j e] at hle ⊢
      rcases hin x hx with rfl | hx
      · by_cases e2 : th j = t
        · have h1 := h.last j e u hu
          have h2 := hcK u hu
          rw [e2] at h1
          omega
        · have h1 := l2 (th j) (hall j e)
          rw [if_neg e2] at h1
          have h2 := hcK u hu
          have h3 := hcm u hu
          by_cases e3 : rd (s.O.getD j []) (th j : Int) ≤ rd m (th j : Int)
          · have := hmc j e e3 u hu; omega
          · have := hKc j e (by omega) u hu; omega
      · exact h.clo x hx j e hle u hu
    · obtain rfl : j = i := by omega
      rw [hOi] at hle ⊢
      rcases hin x hx with rfl | hx
      · exact Int.le_refl _
      · rw [hth] at hle
        have := h.own x hx t ht
        omega
theorem T33_drop (l : List S33) (i : Nat) (h : i < l.length) : l.drop i = rd_T33 l (i : Int) :: l.drop (i + 1) := by
  rw [List.drop_eq_getElem_cons h]
  simp [rd_T33, List.getD_eq_getElem?_getD, h]
theorem T33_get (l : List S33) (i : Nat) (h : i < l.length) : l[i] = rd_T33 l (i : Int) := by
  simp [rd_T33, List.getD_eq_getElem?_getD, h]
def okA (n : Int) (a : S33) : Bool := decide (0 ≤ a.f0) && decide (a.f0 < n) && decide (1 ≤ a.f1) && decide (a.f1 ≤ 7) && decide (0 ≤ a.f2)
def rightB (n : Int) (l : List S33) : Bool := decide (1 ≤ n) && decide (n ≤ 10) && l.all (okA n)
theorem right_tot_loop {n : Int} {l : List S33} (hl : l.length < 9223372036854775807) (d : Nat) : ∀ (k i : Nat), i + d = l.length → d < k → order_Right.l0 k n l l.length i = some ((l.drop i).all (okA n)) := by
  induction d with
  | zero =>
    intro k i hi hk
    obtain ⟨k, rfl⟩ : ∃ m, k = m + 1 := ⟨k - 1, by omega⟩
    simp only [order_Right.l0]
    rw [if_neg (by omega), List.drop_of_length_le (by omega)]
    rfl
  | succ d ih =>
    intro k i hi hk
    obtain ⟨k, rfl⟩ : ∃ m, k = m + 1 := ⟨k - 1, by omega⟩
    simp only [order_Right.l0]
    rw [if_pos (by omega), if_pos (by omega), if_pos (by omega), T33_drop l i (by omega), List.all_cons]
    have hR := ih k (i + 1) (by omega) (by omega)
    generalize (List.drop (i + 1) l).all (okA n) = R at *
    generalize rd_T33 l (i : Int) = a
    unfold okA
    by_cases c1 : a.f0 < 0
    · rw [if_pos c1, decide_eq_false (show ¬ 0 ≤ a.f0 by omega)]; simp
    rw [if_neg c1, decide_eq_true (show 0 ≤ a.f0 by omega)]
    by_cases c2 : a.f0 ≥ n
    · rw [if_pos c2, decide_eq_false (show ¬ a.f0 < n by omega)]; simp
    rw [if_neg c2, decide_eq_true (show a.f0 < n by omega)]
    by_cases c3 : a.f1 < 1
    · rw [if_pos c3, decide_eq_false (show ¬ 1 ≤ a.f1 by omega)]; simp
    rw [if_neg c3, decide_eq_true (show 1 ≤ a.f1 by omega)]
    by_cases c4 : a.f1 > 7
    · rw [if_pos c4, decide_eq_false (show ¬ a.f1 ≤ 7 by omega)]; simp
    rw [if_neg c4, decide_eq_true (show a.f1 ≤ 7 by omega)]
    by_cases c5 : a.f2 < 0
    · rw [if_pos c5, decide_eq_false (show ¬ 0 ≤ a.f2 by omega)]; simp
    rw [if_neg c5, decide_eq_true (show 0 ≤ a.f2 by omega), wrap_succ i (by omega)]
    rw [hR]
    simp
theorem right_tot {n : Int} {l : List S33} {k : Nat} (hl : l.length < 9223372036854775807) (hk : l.length + 1 < k) : order_Right.f k n l = some (rightB n l) := by
  obtain ⟨k, rfl⟩ : ∃ m, k = m + 1 := ⟨k - 1, by omega⟩
  unfold order_Right.f rightB
  by_cases h1 : n < 1
  · rw [if_pos h1, decide_eq_false (show ¬ 1 ≤ n by omega)]
    simp [order_Right.j0]
  · rw [if_neg h1, decide_eq_true (show 1 ≤ n by omega)]
    simp only [order_Right.j0]
    by_cases h2 : n > 10
    · rw [decide_eq_true h2, if_pos rfl, decide_eq_false (show ¬ n ≤ 10 by omega)]; simp
    · rw [decide_eq_false h2, if_neg (by decide), decide_eq_true (show n ≤ 10 by omega)]
      exact right_tot_loop hl l.length k 0 (by omega) (by omega)
theorem rightB_parts {n : Int} {l : List S33} (h : rightB n l = true) : 1 ≤ n ∧ n ≤ 10 ∧ ∀ j : Nat, j < l.length → 0 ≤ (rd_T33 l (j : Int)).f0 ∧ (rd_T33 l (j : Int)).f0 < n ∧ 1 ≤ (rd_T33 l (j : Int)).f1 ∧ (rd_T33 l (j : Int)).f1 ≤ 7 ∧ 0 ≤ (rd_T33 l (j : Int)).f2 := by
  simp only [rightB, Bool.and_eq_true, decide_eq_true_eq, List.all_eq_true] at h
  refine ⟨h.1.1, h.1.2, fun j hj => ?_⟩
  have := h.2 _ (List.getElem_mem hj)
  rw [T33_get l j hj] at this
  simp only [okA, Bool.and_eq_true, decide_eq_true_eq] at this
  omega
/-- an access's thread -/
def thr (l : List S33) (j : Nat) : Nat := (rd_T33 l (j : Int)).f0.toNat
theorem inv_run {n : Int} {l : List S33} (h : rightB n l = true) (hl : l.length ≤ 1000000) : ∀ i, i ≤ l.length → Inv n.toNat (thr l) i (crun n.toNat (l.take i)) := by
  obtain ⟨h1, h2, h3⟩ := rightB_parts h
  intro i
  induction i with
  | zero => intro _; exact Inv.start _ _
  | succ i ih =>
    intro hi
    rw [crun_succ n.toNat l i (by omega), T33_get l i (by omega)]
    have h4 := h3 i (by omega)
    refine (ih (by omega)).step (t := thr l i) (by omega) (by omega) (by omega) ?_ ?_ rfl (fun j hj => ?_)
    · unfold thr; omega
    · unfold thr; omega
    · have := h3 j (by omega)
      unfold thr; omega
theorem crun_pre (n : Nat) (l : List S33) (i : Nat) (hi : i ≤ l.length) : (crun n l).O.take i = (crun n (l.take i)).O := by
  have h : ∀ (m : List S33) (s : CS), ∃ r, (m.foldl cstep s).O = s.O ++ r := by
    intro m
    induction m with
    | nil => intro s; exact ⟨[], by simp⟩
    | cons a m ih =>
      intro s
      obtain ⟨r, hr⟩ := ih (cstep s a)
      exact ⟨clk1 s a :: r, by rw [List.foldl_cons, hr]; simp [cstep]⟩
  obtain ⟨r, hr⟩ := h (l.drop i) (crun n (l.take i))
  have e : crun n l = (l.drop i).foldl cstep (crun n (l.take i)) := by
    unfold crun
    rw [← List.foldl_append, List.take_append_drop]
  rw [e, hr, List.take_append_of_le_length (by rw [crun_O]; simp; omega), List.take_of_length_le (by rw [crun_O]; simp; omega)]
/-- access i's clock -/
def ck (n : Int) (l : List S33) (i : Nat) : List Int := (crun n.toNat l).O.getD i []
theorem ck_pre {n : Int} {l : List S33} {i j : Nat} (hi : i ≤ l.length) (hj : j < i) : (crun n.toNat (l.take i)).O.getD j [] = ck n l j := by
  unfold ck
  rw [← crun_pre n.toNat l i hi]
  simp only [List.getD_eq_getElem?_getD]
  rw [List.getElem?_take, if_pos hj]
theorem ck_new {n : Int} {l : List S33} {i : Nat} (hi : i < l.length) : ck n l i = clk1 (crun n.toNat (l.take i)) (rd_T33 l (i : Int)) := by
  rw [← ck_pre (i := i + 1) (by omega) (by omega), crun_succ n.toNat l i hi, T33_get l i hi]
  unfold cstep
  simp only [List.getD_eq_getElem?_getD]
  have hO := crun_O n.toNat (l.take i)
  rw [List.getElem?_append_right (by rw [hO]; simp; omega), hO]
  simp [List.length_take, Nat.min_eq_left (Nat.le_of_lt hi)]
theorem ck_in {n : Int} {l : List S33} {i : Nat} (hi : i < l.length) : InS n.toNat (crun n.toNat l) (ck n l i) := by
  refine .inr (.inr ?_)
  unfold ck
  rw [List.getD_eq_getElem?_getD, List.getElem?_eq_getElem (by rw [crun_O]; exact hi)]
  exact List.getElem_mem _
theorem inv_end {n : Int} {l : List S33} (h : rightB n l = true) (hl : l.length ≤ 1000000) : Inv n.toNat (thr l) l.length (crun n.toNat l) := by
  have := inv_run h hl l.length (Nat.le_refl _)
  rwa [List.take_length] at this
/-- access j's count is known to access i -/
def kn (n : Int) (l : List S33) (i j : Nat) : Bool := decide (rd (ck n l j) (thr l j : Int) ≤ rd (ck n l i) (thr l j : Int))
theorem kn_trans {n : Int} {l : List S33} (h : rightB n l = true) (hl : l.length ≤ 1000000) {i j k : Nat} (hi : i < l.length) (hj : j < l.length) (hk : k < l.length) (h1 : kn n l i j = true) (h2 : kn n l j k = true) : kn n l i k = true := by
  have hI := inv_end h hl
  simp only [kn, decide_eq_true_eq] at *
  have := hI.clo _ (ck_in hi) j hj h1 (thr l k) (by obtain ⟨p1, p2, p3⟩ := rightB_parts h; have := p3 k hk; unfold thr; omega)
  have e : (crun n.toNat l).O.getD j [] = ck n l j := rfl
  rw [e] at this
  omega
theorem rd_L3_ck {n : Int} {l : List S33} (i : Nat) : rd_L3 (crun n.toNat l).O (i : Int) = ck n l i := rfl
theorem knows_tot {n : Int} {l : List S33} (h : rightB n l = true) (hl : l.length ≤ 1000000) {i j k : Nat} (hk : 20 ≤ k) (hi : i < l.length) (hj : j < l.length) : tick_Knows.f k (ck n l i) (rd_T33 l (j : Int)).f0 (rd (ck n l j) (rd_T33 l (j : Int)).f0) = some (kn n l i j) := by
  obtain ⟨p1, p2, p3⟩ := rightB_parts h
  have h4 := p3 j hj
  have hc := (inv_end h hl).cl _ (ck_in hi)
  have e : (rd_T33 l (j : Int)).f0 = (thr l j : Int) := by unfold thr; omega
  rw [tknows _ _ _ k hk, hc.right (by omega) (by omega) (by omega), e, decide_eq_true (show (0 : Int) ≤ (thr l j : Int) by omega), hc.1, decide_eq_true (show (thr l j : Int) < (n.toNat : Int) by omega)]
  rfl
theorem behind_tot {n : Int} {l : List S33} (h : rightB n l = true) (hl : l.length ≤ 1000000) {i j k : Nat} (hk : 20 ≤ k) (hi : i < l.length) (hj : j < l.length) : order_behind.f k l (crun n.toNat l).O (i : Int) (j : Int) = some (kn n l i j) := by
  obtain ⟨p1, p2, p3⟩ := rightB_parts h
  have h4 := p3 j hj
  have hc := (inv_end h hl).cl _ (ck_in hj)
  unfold order_behind.f
  rw [crun_O, if_pos (by omega), if_pos (by omega), if_pos (by omega), if_pos (by omega), if_pos (by omega), if_pos (by omega), rd_L3_ck, rd_L3_ck, if_pos (by rw [hc.1]; omega), knows_tot h hl hk hi hj]
  rfl
theorem clocks_tot {n : Int} {l : List S33} {k : Nat} (h : rightB n l = true) (hl : l.length ≤ 1000000) (hk : 20 ≤ k) (hk2 : l.length + 1 < k) (hw : ∀ x ∈ l, x.f2 < 9223372036854775808) : order_Clocks.f k n l = some (crun n.toNat l).O := by
  unfold order_Clocks.f
  rw [right_tot (by omega) hk2, h, Option.bind_some, if_pos rfl, if_pos hk, if_pos (by omega), if_pos (by omega), if_pos (by rw [List.all_eq_true]; intro x hx; exact decide_eq_true (hw x hx))]
theorem clocks_not {n : Int} {l : List S33} {k : Nat} (h : rightB n l = false) (hl : l.length ≤ 1000000) (hk2 : l.length + 1 < k) : order_Clocks.f k n l = some [] := by
  unfold order_Clocks.f
  rw [right_tot (by omega) hk2, h, Option.bind_some, if_neg (by decide)]

def behindB (n : Int) (l : List S33) (i j : Int) : Bool := rightB n l && decide (i < (l.length : Int)) && decide (0 ≤ j) && decide (j < i) && kn n l i.toNat j.toNat
theorem Behind_tot {n : Int} {l : List S33} {k : Nat} (hl : l.length ≤ 1000000) (hk : 30 ≤ k) (hk2 : l.length + 10 < k) (hw : ∀ x ∈ l, x.f2 < 9223372036854775808) (i j : Int) : order_Behind.f k n l i j = some (behindB n l i j) := by
  obtain ⟨k, rfl⟩ : ∃ m, k = m + 1 := ⟨k - 1, by omega⟩
  unfold order_Behind.f behindB
  rw [right_tot (by omega) (by omega), Option.bind_some]
  cases hr : rightB n l with
  | false => rw [if_neg (by decide)]; simp [order_Behind.j0]
  | true =>
    rw [if_pos rfl]
    by_cases h1 : i ≥ (l.length : Int)
    · rw [if_pos h1, decide_eq_false (show ¬ i < (l.length : Int) by omega)]; simp [order_Behind.j0]
    · rw [if_neg h1, decide_eq_true (show i < (l.length : Int) by omega)]
      by_cases h2 : j < 0
      · rw [if_pos h2, decide_eq_false (show ¬ 0 ≤ j by omega)]; simp [order_Behind.j0]
      · rw [if_neg h2, decide_eq_true (show 0 ≤ j by omega)]
        simp only [order_Behind.j0]
        by_cases h3 : i ≤ j
        · rw [decide_eq_true h3, if_pos rfl, decide_eq_false (show ¬ j < i by omega)]; simp
        · rw [decide_eq_false h3, if_neg (by decide), clocks_tot hr hl (by omega) (by omega) hw, Option.bind_some, decide_eq_true (show j < i by omega)]
          have e1 : i = ((i.toNat : Nat) : Int) := by omega
          have e2 : j = ((j.toNat : Nat) : Int) := by omega
          have := behind_tot (k := k) hr hl (i := i.toNat) (j := j.toNat) (by omega) (by omega) (by omega)
          rw [← e1, ← e2] at this
          rw [this]
          simp
theorem live_tot : ∀ k, 100 ≤ k → sakialaw13_live.f k = some true := by
  intro k hk
  have h : sakialaw13_live.f 100 = some true := by kernel_rfl
  obtain ⟨d, rfl⟩ : ∃ d, k = 100 + d := ⟨k - 100, by omega⟩
  clear hk
  induction d with
  | zero => exact h
  | succ d ih => exact sakialaw13_live.mono _ _ ih
def zeroT (a : S33) : S33 := ⟨0, a.f1, a.f2, a.f3, a.f4⟩
theorem clash_one (x y : S33) (h : x.f0 = y.f0) : order_Race.clash x y = some false := by
  unfold order_Race.clash order_clash.f
  rw [plain_is, plain_is, Option.bind_some, Option.bind_some]
  split
  · split
    · split
      · rfl
      · rfl
    · rfl
  · rfl
theorem scan_one (k : Nat) (l : List S33) (O : List (List Int)) (i : Nat) (h : ∀ j : Int, (rd_T33 l j).f0 = (rd_T33 l (i : Int)).f0) : ∀ js, order_Race.scan k l O i js = some none := by
  intro js
  induction js with
  | nil => rfl
  | cons j js ih =>
    unfold order_Race.scan
    rw [clash_one _ _ (h j), Option.bind_some, if_neg (by decide)]
    exact ih
theorem go_one (k : Nat) (l : List S33) (O : List (List Int)) (h : ∀ j : Int, (rd_T33 l j).f0 = 0) : ∀ d i, order_Race.go k l O d i = some (0, 0, false) := by
  intro d
  induction d with
  | zero => intro i; rfl
  | succ d ih =>
    intro i
    unfold order_Race.go
    rw [scan_one k l O i (fun j => by rw [h, h]), Option.bind_some]
    split
    · exact ih _
    · exact ih _
theorem one_rd (l : List S33) (j : Int) : (rd_T33 (l.map zeroT) j).f0 = 0 := by
  unfold rd_T33
  simp only [List.getD_eq_getElem?_getD, List.getElem?_map]
  cases l[j.toNat]? with
  | none => rfl
  | some a => rfl
theorem race_one {l : List S33} {k : Nat} (hl : l.length ≤ 1000000) (hk : 30 ≤ k) (hk2 : l.length + 10 < k) (hw : ∀ x ∈ l, x.f2 < 9223372036854775808) : order_Race.f k 1 (l.map zeroT) = some (0, 0, false) := by
  have hw' : ∀ x ∈ l.map zeroT, x.f2 < 9223372036854775808 := by
    intro x hx
    obtain ⟨y, hy, rfl⟩ := List.mem_map.1 hx
    exact hw y hy
  unfold order_Race.f
  cases hr : rightB 1 (l.map zeroT) with
  | false =>
    rw [clocks_not hr (by simpa using hl) (by simp; omega), Option.bind_some, if_pos rfl]
  | true =>
    rw [clocks_tot hr (by simpa using hl) (by omega) (by simp; omega) hw', Option.bind_some]
    split
    · rfl
    · have hp := (rightB_parts hr).2.2
      rw [if_pos, if_pos (by simp; omega), go_one _ _ _ (one_rd l)]
      rw [List.all_eq_true]
      intro x hx
      obtain ⟨i, hi, rfl⟩ := List.mem_iff_getElem.1 hx
      have := hp i hi
      rw [← T33_get _ i hi] at this
      have h2 := hw' _ (List.getElem_mem hi)
      simp only [Bool.and_eq_true, decide_eq_true_eq]
      omega
theorem goes_l0 {n : Int} {l : List S33} (hl : l.length ≤ 60) (d : Nat) : ∀ (k i : Nat), i + d = l.length → 301 + d ≤ k → (∀ k', 300 ≤ k' → ((order_Race.f k' 1 (l.map zeroT)).bind fun bt178 => ((order_Clocks.f k' n l).bind fun t181 => (sakialaw13_OrderGoesOn.l1 k' n l bt178.2.2 t181 1))) = some true) → sakialaw13_OrderGoesOn.l0 k n l ((l.take i).map zeroT) i = some true := by
  induction d with
  | zero =>
    intro k i hi hk h
    obtain ⟨k, rfl⟩ : ∃ m, k = m + 1 := ⟨k - 1, by omega⟩
    obtain rfl : i = l.length := by omega
    simp only [sakialaw13_OrderGoesOn.l0]
    rw [List.take_length]
    first | rw [if_neg (Int.lt_irrefl _)] | rw [if_neg (fun h => h)] | skip
    exact h k (by omega)
  | succ d ih =>
    intro k i hi hk h
    obtain ⟨k, rfl⟩ : ∃ m, k = m + 1 := ⟨k - 1, by omega⟩
    simp only [sakialaw13_OrderGoesOn.l0]
    rw [if_pos (by omega), if_pos (by omega), if_pos (by simp; omega), wrap_succ i (by omega)]
    have e : (l.take i).map zeroT ++ [(⟨0, (rd_T33 l (i : Int)).f1, (rd_T33 l (i : Int)).f2, (rd_T33 l (i : Int)).f3, (rd_T33 l (i : Int)).f4⟩ : S33)] = (l.take (i + 1)).map zeroT := by
      rw [List.take_succ_eq_append_getElem (by omega), List.map_append, T33_get l i (by omega)]
      rfl
    rw [e]
    exact ih k (i + 1) (by omega) (by omega) h
theorem goes_l1 {n : Int} {l : List S33} (hr : rightB n l = true) (hl : l.length ≤ 60) (hw : ∀ x ∈ l, x.f2 < 9223372036854775808) (d : Nat) : ∀ (k m : Nat), 1 ≤ m → m + d = l.length + 1 → 150 + 2 * d ≤ k → sakialaw13_OrderGoesOn.l1 k n l false (crun n.toNat l).O m = some true := by
  induction d with
  | zero =>
    intro k m h1 hm hk
    obtain ⟨k, rfl⟩ : ∃ m, k = m + 2 := ⟨k - 2, by omega⟩
    simp only [sakialaw13_OrderGoesOn.l1, sakialaw13_OrderGoesOn.j3]
    rw [crun_O, if_neg (by omega), if_neg (by decide), if_neg (by decide), live_tot k (by omega)]
    rfl
  | succ d ih =>
    intro k m h1 hm hk
    obtain ⟨k, rfl⟩ : ∃ m, k = m + 2 := ⟨k - 2, by omega⟩
    by_cases hlt : m < l.length
    · have hc := (inv_end hr (by omega)).cl _ (ck_in (n := n) (l := l) (i := m - 1) (by omega))
      obtain ⟨p1, p2, p3⟩ := rightB_parts hr
      have hp := p3 (m - 1) (by omega)
      simp only [sakialaw13_OrderGoesOn.l1, sakialaw13_OrderGoesOn.j3]
      have e : wrap64 ((m : Int) - 1) = ((m - 1 : Nat) : Int) := by unfold wrap64; omega
      rw [crun_O, if_pos (by omega), decide_eq_true (show (m : Int) < (l.length : Int) by omega), if_pos rfl, e, Behind_tot (by omega) (by omega) (by omega) hw, Option.bind_some,
        if_pos (by omega), if_pos (by omega), if_pos (by omega), if_pos (by omega), if_pos (by omega), if_pos (by omega), rd_L3_ck, rd_L3_ck, if_pos (by rw [hc.1]; omega), knows_tot hr (by omega) (by omega) hlt (by omega), Option.bind_some]
      have e2 : behindB n l (m : Int) ((m - 1 : Nat) : Int) = kn n l m (m - 1) := by
        unfold behindB
        rw [hr, decide_eq_true (show (m : Int) < (l.length : Int) by omega), decide_eq_true (show (0 : Int) ≤ ((m - 1 : Nat) : Int) by omega), decide_eq_true (show ((m - 1 : Nat) : Int) < (m : Int) by omega)]
        simp
      rw [e2, if_neg (by simp), wrap_succ m (by omega)]
      exact ih k (m + 1) (by omega) (by omega) (by omega)
    · simp only [sakialaw13_OrderGoesOn.l1, sakialaw13_OrderGoesOn.j3]
      rw [crun_O, if_neg (by omega), if_neg (by decide), if_neg (by decide), live_tot k (by omega)]
      rfl
theorem OrderGoesOn : sakialaw13_OrderGoesOn.Pure := by
  intro n l i j m wn hmax hsz hwf wi wj wm
  have hw : ∀ x ∈ l, x.f2 < 9223372036854775808 := by
    intro x hx
    have h := (hwf x hx).2.2.1
    have e2 : IntKind.i64.max = 9223372036854775807 := by decide
    simp only [Lit.wf, e2, Bool.and_eq_true, decide_eq_true_eq] at h
    omega
  refine ⟨1000, ?_⟩
  unfold sakialaw13_OrderGoesOn.f
  by_cases hl : (l.length : Int) > 60
  · rw [if_pos hl, live_tot 1000 (by omega)]; rfl
  rw [if_neg hl]
  have hl2 : l.length ≤ 60 := by omega
  have hj : sakialaw13_OrderGoesOn.j0 1000 n l false = some true := by
    show sakialaw13_OrderGoesOn.j0 (999 + 1) n l false = some true
    simp only [sakialaw13_OrderGoesOn.j0]
    rw [if_neg (by decide)]
    refine goes_l0 (n := n) hl2 l.length 999 0 (by omega) (by omega) (fun k hk => ?_)
    rw [race_one (by omega) (by omega) (by omega) hw, Option.bind_some]
    cases hr : rightB n l with
    | false =>
      rw [clocks_not hr (by omega) (by omega), Option.bind_some]
      obtain ⟨k, rfl⟩ : ∃ m, k = m + 2 := ⟨k - 2, by omega⟩
      simp only [sakialaw13_OrderGoesOn.l1, sakialaw13_OrderGoesOn.j3]
      rw [if_neg (by decide), if_neg (by decide), if_neg (by decide), live_tot k (by omega)]
      rfl
    | true =>
      rw [clocks_tot hr (by omega) (by omega) (by omega) hw, Option.bind_some]
      exact goes_l1 hr hl2 hw l.length k 1 (by omega) (by omega) (by omega)
  rw [Behind_tot (by omega) (by omega) (by omega) hw, Option.bind_some]
  cases h1 : behindB n l i j with
  | false => rw [if_neg (by decide)]; exact hj
  | true =>
    rw [if_pos rfl]
    simp only [behindB, Bool.and_eq_true, decide_eq_true_eq] at h1
    obtain ⟨⟨⟨⟨b1, b2⟩, b3⟩, b4⟩, b5⟩ := h1
    rw [if_neg (by omega), Behind_tot (by omega) (by omega) (by omega) hw, Option.bind_some]
    cases h2 : behindB n l j m with
    | false => rw [if_neg (by decide)]; exact hj
    | true =>
      rw [if_pos rfl]
      simp only [behindB, Bool.and_eq_true, decide_eq_true_eq] at h2
      obtain ⟨⟨⟨⟨c1, c2⟩, c3⟩, c4⟩, c5⟩ := h2
      rw [Behind_tot (by omega) (by omega) (by omega) hw, Option.bind_some]
      have h3 : behindB n l i m = true := by
        simp only [behindB, Bool.and_eq_true, decide_eq_true_eq]
        exact ⟨⟨⟨⟨b1, b2⟩, c3⟩, by omega⟩, kn_trans b1 (by omega) (by omega) (by omega) (by omega) b5 c5⟩
      rw [h3]
      exact hj


end Go.Proofs.Yteahmcfinijmdaa.Pure
