/- It is proved that the law OrderClocks answers true for every input: what each access stands behind is what its clock knows; and how many accesses of each thread are atomic, and plain. Conditions: none. -/
import Derived.Test.YteahmcfinijmdaaQOrderClocksx12
namespace Go.Proofs.Yteahmcfinijmdaa.Pure
open Go Go.RowKit Go.Proofs.Yteahmcfinijmdaa.QOrderClocks Go.Proofs.YteahmcfinijmdaaW.PrintWords Go.Proofs.YteahmcfinijmdaaW.PrintLast Go.Proofs.YteahmcfinijmdaaW.PrintMore
set_option linter.unusedVariables false
set_option linter.unusedSimpArgs false

/-! What the clocks tell (no program in sight). -/
theorem rd_get2 (c : List Int) (u : Nat) : rd c (u : Int) = (c[u]?).getD 0 := by simp [rd, List.getD_eq_getElem?_getD]
theorem rd_set (c : List Int) (i u : Nat) (v : Int) (h : i < c.length) : rd (c.set i v) (u : Int) = if u = i then v else rd c (u : Int) := by
  rw [rd_get2, rd_get2, List.getElem?_set]
  by_cases e : i = u
  · subst e; simp [h]
  · rw [if_neg e, if_neg (fun e2 => e e2.symm)]
theorem rd_rep (n u : Nat) : rd (List.replicate n 0) (u : Int) = 0 := by
  rw [rd_get2, List.getElem?_replicate]
  split <;> rfl
theorem getD_set2 (K : List (List Int)) (t j : Nat) (c : List Int) (ht : t < K.length) : (K.set t c).getD j [] = if j = t then c else K.getD j [] := by
  simp only [List.getD_eq_getElem?_getD]
  rw [List.getElem?_set]
  by_cases e : t = j
  · subst e; simp [ht]
  · rw [if_neg e, if_neg (fun e2 => e e2.symm)]
/-- a clock of n threads, of at most m -/
def Cl (n m : Nat) (c : List Int) : Prop := c.length = n ∧ ∀ u : Nat, u < n → 0 ≤ rd c (u : Int) ∧ rd c (u : Int) ≤ (m : Int)
theorem Cl.right {n m : Nat} {c : List Int} (h : Cl n m c) (hn : 1 ≤ n) (hn2 : n ≤ 10) (hm : m ≤ 1099511627776) : right c = true :=
  right_mk (by rw [h.1]; omega) (by rw [h.1]; omega) (fun i hi => by have := h.2 i (by rw [← h.1]; exact hi); omega)
def InS (n : Nat) (s : CS) (c : List Int) : Prop := (∃ t, t < n ∧ c = s.K.getD t []) ∨ (∃ x, s.M x = some c) ∨ c ∈ s.O
structure Inv (n : Nat) (th : Nat → Nat) (i : Nat) (s : CS) : Prop where
  K : s.K.length = n
  O : s.O.length = i
  cl : ∀ c, InS n s c → Cl n i c
  own : ∀ c, InS n s c → ∀ u : Nat, u < n → rd c (u : Int) ≤ rd (s.K.getD u []) (u : Int)
  last : ∀ j, j < i → ∀ u : Nat, u < n → rd (s.O.getD j []) (u : Int) ≤ rd (s.K.getD (th j) []) (u : Int)
  clo : ∀ c, InS n s c → ∀ j, j < i → rd (s.O.getD j []) (th j : Int) ≤ rd c (th j : Int) → ∀ u : Nat, u < n → rd (s.O.getD j []) (u : Int) ≤ rd c (u : Int)
theorem Inv.start (n : Nat) (th : Nat → Nat) : Inv n th 0 (cs0 n) := by
  have hk : ∀ c, InS n (cs0 n) c → c = List.replicate n 0 := by
    intro c h
    rcases h with ⟨t, ht, e⟩ | ⟨x, e⟩ | e
    · rw [e]; simp [cs0, List.getD_eq_getElem?_getD, List.getElem?_replicate, ht]
    · simp [cs0] at e
    · simp [cs0] at e
  refine ⟨by simp [cs0], by simp [cs0], fun c h => ?_, fun c h u hu => ?_, fun j hj => absurd hj (by omega), fun c h j hj => absurd hj (by omega)⟩
  · rw [hk c h]
    exact ⟨by simp, fun u _ => by rw [rd_rep]; simp⟩
  · rw [hk c h]
    have : (cs0 n).K.getD u [] = List.replicate n 0 := by simp [cs0, List.getD_eq_getElem?_getD, List.getElem?_replicate, hu]
    rw [this]
    exact Int.le_refl _
/-- what an access joins with: its cell's clock, or its thread's own -/
def mixC (s : CS) (a : S33) (t : Nat) : List Int := if (s.M a.f2).isSome && (atomB a.f1 && rdB a.f1) then (s.M a.f2).getD [] else s.K.getD t []
theorem mixC_in {n : Nat} {s : CS} {a : S33} {t : Nat} (ht : t < n) : InS n s (mixC s a t) := by
  unfold mixC
  split
  · rename_i h
    simp only [Bool.and_eq_true] at h
    obtain ⟨c, hc⟩ := Option.isSome_iff_exists.1 h.1
    rw [hc]
    exact .inr (.inl ⟨_, hc⟩)
  · exact .inl ⟨t, ht, rfl⟩
theorem tick_rd {n i t : Nat} {c : List Int} (h : Cl n i c) (hn : 1 ≤ n) (hn2 : n ≤ 10) (hi : i < 1099511627776) (ht : t < n) :
    (tick c (t : Int)).length = n ∧ ∀ u : Nat, u < n → rd (tick c (t : Int)) (u : Int) = rd c (u : Int) + if u = t then 1 else 0 := by
  have hr := h.right hn hn2 (by omega)
  have h2 := h.2 t ht
  unfold tick
  rw [if_pos ⟨hr, by omega, by rw [h.1]; omega, by omega⟩]
  refine ⟨by rw [List.length_set]; exact h.1, fun u hu => ?_⟩
  rw [Int.toNat_natCast, rd_set _ _ _ _ (by rw [h.1]; exact ht)]
  by_cases e : u = t
  · subst e; simp
  · rw [if_neg e, if_neg e]; omega
theorem clk1_rd {n i t : Nat} {th : Nat → Nat} {s : CS} {a : S33} (h : Inv n th i s) (hn : 1 ≤ n) (hn2 : n ≤ 10) (hi : i < 1099511627776) (ht : t < n) (ha : a.f0 = (t : Int)) :
    (clk1 s a).length = n ∧ ∀ u : Nat, u < n → rd (clk1 s a) (u : Int) = max (rd (s.K.getD t []) (u : Int) + if u = t then 1 else 0) (rd (mixC s a t) (u : Int)) := by
  have hK := h.cl _ (.inl ⟨t, ht, rfl⟩)
  obtain ⟨t1, t2⟩ := tick_rd hK hn hn2 hi ht
  unfold clk1 mixC
  rw [ha, Int.toNat_natCast]
  split
  · rename_i hc
    simp only [Bool.and_eq_true] at hc
    obtain ⟨m, hm⟩ := Option.isSome_iff_exists.1 hc.1
    rw [hm]
    simp only [Option.getD_some]
    have hM := h.cl m (.inr (.inl ⟨_, hm⟩))
    have tC : Cl n (i + 1) (tick (s.K.getD t []) (t : Int)) := ⟨t1, fun u hu => by have := hK.2 u hu; rw [t2 u hu]; split <;> omega⟩
    have hb : both (tick (s.K.getD t []) (t : Int)) m = true := both_mk (tC.right hn hn2 (by omega)) (hM.right hn hn2 (by omega)) (by rw [t1, hM.1])
    unfold join
    rw [if_pos hb]
    refine ⟨by rw [joinZ_len (by rw [t1, hM.1]), t1], fun u hu => ?_⟩
    rw [joinZ_rd (by rw [t1, hM.1]) u (by rw [t1]; exact hu), t2 u hu]
    unfold mx
    split <;> omega
  · refine ⟨t1, fun u hu => ?_⟩
    rw [t2 u hu]
    split <;> omega
theorem Inv.step {n i t : Nat} {th : Nat → Nat} {s : CS} {a : S33} (h : Inv n th i s) (hn : 1 ≤ n) (hn2 : n ≤ 10) (hi : i < 1099511627776) (ht : t < n) (ha : a.f0 = (t : Int)) (hth : th i = t) (hall : ∀ j, j < i → th j < n) : Inv n th (i + 1) (cstep s a) := by
  obtain ⟨l1, l2⟩ := clk1_rd h hn hn2 hi ht ha
  have hm := mixC_in (s := s) (a := a) ht
  have hmo := h.own _ hm
  have hmc := h.clo _ hm
  have hml := h.cl _ hm
  have hKi : InS n s (s.K.getD t []) := .inl ⟨t, ht, rfl⟩
  have hKo := h.own _ hKi
  have hKc := h.clo _ hKi
  have hKl := h.cl _ hKi
  have hs : cstep s a = ⟨s.K.set t (clk1 s a), clkM s a (clk1 s a), s.O ++ [clk1 s a]⟩ := by unfold cstep; rw [ha, Int.toNat_natCast]
  rw [hs]
  clear hs
  generalize hc : clk1 s a = c at *
  generalize mixC s a t = m at *
  have hin : ∀ x, InS n ⟨s.K.set t c, clkM s a c, s.O ++ [c]⟩ x → x = c ∨ InS n s x := by
    intro x hx
    rcases hx with ⟨u, hu, e⟩ | ⟨y, e⟩ | e
    · simp only at e
      rw [getD_set2 _ _ _ _ (by rw [h.K]; exact ht)] at e
      by_cases e2 : u = t
      · rw [if_pos e2] at e; exact .inl e
      · rw [if_neg e2] at e; exact .inr (.inl ⟨u, hu, e⟩)
    · simp only [clkM] at e
      split at e
      · simp only at e
        by_cases e2 : y = a.f2
        · rw [if_pos e2] at e; exact .inl (Option.some.inj e).symm
        · rw [if_neg e2] at e; exact .inr (.inr (.inl ⟨y, e⟩))
      · exact .inr (.inr (.inl ⟨y, e⟩))
    · rcases List.mem_append.1 e with e | e
      · exact .inr (.inr (.inr e))
      · exact .inl (by simpa using e)
  have hct : rd c (t : Int) = rd (s.K.getD t []) (t : Int) + 1 := by
    have := l2 t ht
    have := hmo t ht
    rw [if_pos rfl] at *
    omega
  have hcK : ∀ u : Nat, u < n → rd (s.K.getD t []) (u : Int) ≤ rd c (u : Int) := fun u hu => by have := l2 u hu; split at this <;> omega
  have hcm : ∀ u : Nat, u < n → rd m (u : Int) ≤ rd c (u : Int) := fun u hu => by have := l2 u hu; omega
  have hO : ∀ j, j < i → (s.O ++ [c]).getD j [] = s.O.getD j [] := fun j hj => by
    simp only [List.getD_eq_getElem?_getD]
    rw [List.getElem?_append_left (by rw [h.O]; exact hj)]
  have hOi : (s.O ++ [c]).getD i [] = c := by
    simp only [List.getD_eq_getElem?_getD]
    rw [List.getElem?_append_right (by rw [h.O]; omega), h.O]
    simp
  have hKn : ∀ u, (s.K.set t c).getD u [] = if u = t then c else s.K.getD u [] := fun u => getD_set2 _ _ _ _ (by rw [h.K]; exact ht)
  refine ⟨by simpa using h.K, by simp [h.O], fun x hx => ?_, fun x hx u hu => ?_, fun j hj u hu => ?_, fun x hx j hj hle u hu => ?_⟩
  · rcases hin x hx with rfl | hx
    · refine ⟨l1, fun u hu => ?_⟩
      have h1 := l2 u hu
      have h2 := hKl.2 u hu
      have h3 := hml.2 u hu
      split at h1 <;> omega
    · have := h.cl x hx
      exact ⟨this.1, fun u hu => by have := this.2 u hu; omega⟩
  · simp only [hKn]
    by_cases e : u = t
    · rw [if_pos e]
      subst e
      rcases hin x hx with rfl | hx
      · exact Int.le_refl _
      · have := h.own x hx u hu; omega
    · rw [if_neg e]
      rcases hin x hx with rfl | hx
      · have h1 := l2 u hu
        have h2 := hmo u hu
        have h3 := hKo u hu
        rw [if_neg e] at h1
        omega
      · exact h.own x hx u hu
  · simp only [hKn]
    by_cases e : j < i
    · rw [hO j e]
      have h1 := h.last j e u hu
      by_cases e2 : th j = t
      · rw [if_pos e2]
        have h2 := hcK u hu
        rw [e2] at h1
        omega
      · rw [if_neg e2]; exact h1
    · obtain rfl : j = i := by omega
      rw [hOi, if_pos hth]
      exact Int.le_refl _
  · simp only at hle ⊢
    by_cases e : j < i
    · rw [hO j e] at hle ⊢
      rcases hin x hx with rfl | hx
      · by_cases e2 : th j = t
        · have h1 := h.last j e u hu
          have h2 := hcK u hu
          rw [e2] at h1
          omega
        · have h1 := l2 (th j) (hall j e)
          rw [if_neg e2] at h1
          have h2 := hcK u hu
          have h3 := hcm u hu
          by_cases e3 : rd (s.O.getD j []) (th j : Int) ≤ rd m (th j : Int)
          · have := hmc j e e3 u hu; omega
          · have := hKc j e (by omega) u hu; omega
      · exact h.clo x hx j e hle u hu
    · obtain rfl : j = i := by omega
      rw [hOi] at hle ⊢
      rcases hin x hx with rfl | hx
      · exact Int.le_refl _
      · rw [hth] at hle
        have := h.own x hx t ht
        omega
theorem T33_drop (l : List S33) (i : Nat) (h : i < l.length) : l.drop i = rd_T33 l (i : Int) :: l.drop (i + 1) := by
  rw [List.drop_eq_getElem_cons h]
  simp [rd_T33, List.getD_eq_getElem?_getD, h]
theorem T33_get (l : List S33) (i : Nat) (h : i < l.length) : l[i] = rd_T33 l (i : Int) := by
  simp [rd_T33, List.getD_eq_getElem?_getD, h]
def okA (n : Int) (a : S33) : Bool := decide (0 ≤ a.f0) && decide (a.f0 < n) && decide (1 ≤ a.f1) && decide (a.f1 ≤ 7) && decide (0 ≤ a.f2)
def rightB (n : Int) (l : List S33) : Bool := decide (1 ≤ n) && decide (n ≤ 10) && l.all (okA n)
theorem right_tot_loop {n : Int} {l : List S33} (hl : l.length < 9223372036854775807) (d : Nat) : ∀ (k i : Nat), i + d = l.length → d < k → order_Right.l0 k n l l.length i = some ((l.drop i).all (okA n)) := by
  induction d with
  | zero =>
    intro k i hi hk
    obtain ⟨k, rfl⟩ : ∃ m, k = m + 1 := ⟨k - 1, by omega⟩
    simp only [order_Right.l0]
    rw [if_neg (by omega), List.drop_of_length_le (by omega)]
    rfl
  | succ d ih =>
    intro k i hi hk
    obtain ⟨k, rfl⟩ : ∃ m, k = m + 1 := ⟨k - 1, by omega⟩
    simp only [order_Right.l0]
    rw [if_pos (by omega), if_pos (by omega), if_pos (by omega), T33_drop l i (by omega), List.all_cons]
    have hR := ih k (i + 1) (by omega) (by omega)
    generalize (List.drop (i + 1) l).all (okA n) = R at *
    generalize rd_T33 l (i : Int) = a
    unfold okA
    by_cases c1 : a.f0 < 0
    · rw [if_pos c1, decide_eq_false (show ¬ 0 ≤ a.f0 by omega)]; simp
    rw [if_neg c1, decide_eq_true (show 0 ≤ a.f0 by omega)]
    by_cases c2 : a.f0 ≥ n
    · rw [if_pos c2, decide_eq_false (show ¬ a.f0 < n by omega)]; simp
    rw [if_neg c2, decide_eq_true (show a.f0 < n by omega)]
    by_cases c3 : a.f1 < 1
    · rw [if_pos c3, decide_eq_false (show ¬ 1 ≤ a.f1 by omega)]; simp
    rw [if_neg c3, decide_eq_true (show 1 ≤ a.f1 by omega)]
    by_cases c4 : a.f1 > 7
    · rw [if_pos c4, decide_eq_false (show ¬ a.f1 ≤ 7 by omega)]; simp
    rw [if_neg c4, decide_eq_true (show a.f1 ≤ 7 by omega)]
    by_cases c5 : a.f2 < 0
    · rw [if_pos c5, decide_eq_false (show ¬ 0 ≤ a.f2 by omega)]; simp
    rw [if_neg c5, decide_eq_true (show 0 ≤ a.f2 by omega), wrap_succ i (by omega)]
    rw [hR]
    simp
theorem right_tot {n : Int} {l : List S33} {k : Nat} (hl : l.length < 9223372036854775807) (hk : l.length + 1 < k) : order_Right.f k n l = some (rightB n l) := by
  obtain ⟨k, rfl⟩ : ∃ m, k = m + 1 := ⟨k - 1, by omega⟩
  unfold order_Right.f rightB
  by_cases h1 : n < 1
  · rw [if_pos h1, decide_eq_false (show ¬ 1 ≤ n by omega)]
    simp [order_Right.j0]
  · rw [if_neg h1, decide_eq_true (show 1 ≤ n by omega)]
    simp only [order_Right.j0]
    by_cases h2 : n > 10
    · rw [decide_eq_true h2, if_pos rfl, decide_eq_false (show ¬ n ≤ 10 by omega)]; simp
    · rw [decide_eq_false h2, if_neg (by decide), decide_eq_true (show n ≤ 10 by omega)]
      exact right_tot_loop hl l.length k 0 (by omega) (by omega)
theorem rightB_parts {n : Int} {l : List S33} (h : rightB n l = true) : 1 ≤ n ∧ n ≤ 10 ∧ ∀ j : Nat, j < l.length → 0 ≤ (rd_T33 l (j : Int)).f0 ∧ (rd_T33 l (j : Int)).f0 < n ∧ 1 ≤ (rd_T33 l (j : Int)).f1 ∧ (rd_T33 l (j : Int)).f1 ≤ 7 ∧ 0 ≤ (rd_T33 l (j : Int)).f2 := by
  simp only [rightB, Bool.and_eq_true, decide_eq_true_eq, List.all_eq_true] at h
  refine ⟨h.1.1, h.1.2, fun j hj => ?_⟩
  have := h.2 _ (List.getElem_mem hj)
  rw [T33_get l j hj] at this
  simp only [okA, Bool.and_eq_true, decide_eq_true_eq] at this
  omega
/-- an access's thread -/
def thr (l : List S33) (j : Nat) : Nat := (rd_T33 l (j : Int)).f0.toNat
theorem inv_run {n : Int} {l : List S33} (h : rightB n l = true) (hl : l.length ≤ 1000000) : ∀ i, i ≤ l.length → Inv n.toNat (thr l) i (crun n.toNat (l.take i)) := by
  obtain ⟨h1, h2, h3⟩ := rightB_parts h
  intro i
  induction i with
  | zero => intro _; exact Inv.start _ _
  | succ i ih =>
    intro hi
    rw [crun_succ n.toNat l i (by omega), T33_get l i (by omega)]
    have h4 := h3 i (by omega)
    refine (ih (by omega)).step (t := thr l i) (by omega) (by omega) (by omega) ?_ ?_ rfl (fun j hj => ?_)
    · unfold thr; omega
    · unfold thr; omega
    · have := h3 j (by omega)
      unfold thr; omega
theorem crun_pre (n : Nat) (l : List S33) (i : Nat) (hi : i ≤ l.length) : (crun n l).O.take i = (crun n (l.take i)).O := by
  have h : ∀ (m : List S33) (s : CS), ∃ r, (m.foldl cstep s).O = s.O ++ r := by
    intro m
    induction m with
    | nil => intro s; exact ⟨[], by simp⟩
    | cons a m ih =>
      intro s
      obtain ⟨r, hr⟩ := ih (cstep s a)
      exact ⟨clk1 s a :: r, by rw [List.foldl_cons, hr]; simp [cstep]⟩
  obtain ⟨r, hr⟩ := h (l.drop i) (crun n (l.take i))
  have e : crun n l = (l.drop i).foldl cstep (crun n (l.take i)) := by
    unfold crun
    rw [← List.foldl_append, List.take_append_drop]
  rw [e, hr, List.take_append_of_le_length (by rw [crun_O]; simp; omega), List.take_of_length_le (by rw [crun_O]; simp; omega)]
/-- access i's clock -/
def ck (n : Int) (l : List S33) (i : Nat) : List Int := (crun n.toNat l).O.getD i []
theorem ck_pre {n : Int} {l : List S33} {i j : Nat} (hi : i ≤ l.length) (hj : j < i) : (crun n.toNat (l.take i)).O.getD j [] = ck n l j := by
  unfold ck
  rw [← crun_pre n.toNat l i hi]
  simp only [List.getD_eq_getElem?_getD]
  rw [List.getElem?_take, if_pos hj]
theorem ck_new {n : Int} {l : List S33} {i : Nat} (hi : i < l.length) : ck n l i = clk1 (crun n.toNat (l.take i)) (rd_T33 l (i : Int)) := by
  rw [← ck_pre (i := i + 1) (by omega) (by omega), crun_succ n.toNat l i hi, T33_get l i hi]
  unfold cstep
  simp only [List.getD_eq_getElem?_getD]
  have hO := crun_O n.toNat (l.take i)
  rw [List.getElem?_append_right (by rw [hO]; simp; omega), hO]
  simp [List.length_take, Nat.min_eq_left (Nat.le_of_lt hi)]
theorem ck_in {n : Int} {l : List S33} {i : Nat} (hi : i < l.length) : InS n.toNat (crun n.toNat l) (ck n l i) := by
  refine .inr (.inr ?_)
  unfold ck
  rw [List.getD_eq_getElem?_getD, List.getElem?_eq_getElem (by rw [crun_O]; exact hi)]
  exact List.getElem_mem _
theorem inv_end {n : Int} {l : List S33} (h : rightB n l = true) (hl : l.length ≤ 1000000) : Inv n.toNat (thr l) l.length (crun n.toNat l) := by
  have := inv_run h hl l.length (Nat.le_refl _)
  rwa [List.take_length] at this
/-- access j's count is known to access i -/
def kn (n : Int) (l : List S33) (i j : Nat) : Bool := decide (rd (ck n l j) (thr l j : Int) ≤ rd (ck n l i) (thr l j : Int))
theorem kn_trans {n : Int} {l : List S33} (h : rightB n l = true) (hl : l.length ≤ 1000000) {i j k : Nat} (hi : i < l.length) (hj : j < l.length) (hk : k < l.length) (h1 : kn n l i j = true) (h2 : kn n l j k = true) : kn n l i k = true := by
  have hI := inv_end h hl
  simp only [kn, decide_eq_true_eq] at *
  have := hI.clo _ (ck_in hi) j hj h1 (thr l k) (by obtain ⟨p1, p2, p3⟩ := rightB_parts h; have := p3 k hk; unfold thr; omega)
  have e : (crun n.toNat l).O.getD j [] = ck n l j := rfl
  rw [e] at this
  omega
theorem rd_L3_ck {n : Int} {l : List S33} (i : Nat) : rd_L3 (crun n.toNat l).O (i : Int) = ck n l i := rfl
theorem knows_tot {n : Int} {l : List S33} (h : rightB n l = true) (hl : l.length ≤ 1000000) {i j k : Nat} (hk : 20 ≤ k) (hi : i < l.length) (hj : j < l.length) : tick_Knows.f k (ck n l i) (rd_T33 l (j : Int)).f0 (rd (ck n l j) (rd_T33 l (j : Int)).f0) = some (kn n l i j) := by
  obtain ⟨p1, p2, p3⟩ := rightB_parts h
  have h4 := p3 j hj
  have hc := (inv_end h hl).cl _ (ck_in hi)
  have e : (rd_T33 l (j : Int)).f0 = (thr l j : Int) := by unfold thr; omega
  rw [tknows _ _ _ k hk, hc.right (by omega) (by omega) (by omega), e, decide_eq_true (show (0 : Int) ≤ (thr l j : Int) by omega), hc.1, decide_eq_true (show (thr l j : Int) < (n.toNat : Int) by omega)]
  rfl
theorem behind_tot {n : Int} {l : List S33} (h : rightB n l = true) (hl : l.length ≤ 1000000) {i j k : Nat} (hk : 20 ≤ k) (hi : i < l.length) (hj : j < l.length) : order_behind.f k l (crun n.toNat l).O (i : Int) (j : Int) = some (kn n l i j) := by
  obtain ⟨p1, p2, p3⟩ := rightB_parts h
  have h4 := p3 j hj
  have hc := (inv_end h hl).cl _ (ck_in hj)
  unfold order_behind.f
  rw [crun_O, if_pos (by omega), if_pos (by omega), if_pos (by omega), if_pos (by omega), if_pos (by omega), if_pos (by omega), rd_L3_ck, rd_L3_ck, if_pos (by rw [hc.1]; omega), knows_tot h hl hk hi hj]
  rfl
theorem clocks_tot {n : Int} {l : List S33} {k : Nat} (h : rightB n l = true) (hl : l.length ≤ 1000000) (hk : 20 ≤ k) (hk2 : l.length + 1 < k) (hw : ∀ x ∈ l, x.f2 < 9223372036854775808) : order_Clocks.f k n l = some (crun n.toNat l).O := by
  unfold order_Clocks.f
  rw [right_tot (by omega) hk2, h, Option.bind_some, if_pos rfl, if_pos hk, if_pos (by omega), if_pos (by omega), if_pos (by rw [List.all_eq_true]; intro x hx; exact decide_eq_true (hw x hx))]
theorem clocks_not {n : Int} {l : List S33} {k : Nat} (h : rightB n l = false) (hl : l.length ≤ 1000000) (hk2 : l.length + 1 < k) : order_Clocks.f k n l = some [] := by
  unfold order_Clocks.f
  rw [right_tot (by omega) hk2, h, Option.bind_some, if_neg (by decide)]

/-! The reference's table tells what the clocks know. -/
def lastT (l : List S33) (t : Nat) : Nat → Int
  | 0 => -1
  | i + 1 => if thr l i = t then (i : Int) else lastT l t i
def lastW (l : List S33) (x : Int) : Nat → Int
  | 0 => -1
  | i + 1 => if (atomB (rd_T33 l (i : Int)).f1 && wrB (rd_T33 l (i : Int)).f1) = true ∧ x = (rd_T33 l (i : Int)).f2 then (i : Int) else lastW l x i
theorem lastT_bound (l : List S33) (t : Nat) : ∀ i, -1 ≤ lastT l t i ∧ lastT l t i < i := by
  intro i
  induction i with
  | zero => simp [lastT]
  | succ i ih => unfold lastT; split <;> omega
theorem lastW_bound (l : List S33) (x : Int) : ∀ i, -1 ≤ lastW l x i ∧ lastW l x i < i := by
  intro i
  induction i with
  | zero => simp [lastW]
  | succ i ih => unfold lastW; split <;> omega
theorem lastT_thr (l : List S33) (t : Nat) : ∀ i, 0 ≤ lastT l t i → thr l (lastT l t i).toNat = t := by
  intro i
  induction i with
  | zero => intro h; simp [lastT] at h
  | succ i ih =>
    unfold lastT
    split
    · rename_i h; intro _; simpa using h
    · exact ih
theorem lastT_ge (l : List S33) (t : Nat) : ∀ i k, k < i → thr l k = t → (k : Int) ≤ lastT l t i := by
  intro i
  induction i with
  | zero => intro k hk; omega
  | succ i ih =>
    intro k hk ht
    unfold lastT
    split
    · omega
    · rename_i h
      have : k ≠ i := fun e => h (e ▸ ht)
      exact ih k (by omega) ht
theorem state_is {n : Int} {l : List S33} (h : rightB n l = true) (hl : l.length ≤ 1000000) : ∀ i, i ≤ l.length →
    (∀ t, t < n.toNat → (crun n.toNat (l.take i)).K.getD t [] = if lastT l t i < 0 then List.replicate n.toNat 0 else ck n l (lastT l t i).toNat) ∧
    (∀ x, (crun n.toNat (l.take i)).M x = if lastW l x i < 0 then none else some (ck n l (lastW l x i).toNat)) := by
  intro i
  induction i with
  | zero =>
    intro _
    refine ⟨fun t ht => ?_, fun x => ?_⟩
    · rw [if_pos (by simp [lastT])]
      simp [crun, cs0, List.getD_eq_getElem?_getD, List.getElem?_replicate, ht]
    · rw [if_pos (by simp [lastW])]
      rfl
  | succ i ih =>
    intro hi
    obtain ⟨i1, i2⟩ := ih (by omega)
    have hn := ck_new (n := n) (l := l) (i := i) (by omega)
    have hK := crun_K n.toNat (l.take i)
    have hp := (rightB_parts h).2.2 i (by omega)
    rw [crun_succ n.toNat l i (by omega), T33_get l i (by omega)]
    have e : cstep (crun n.toNat (l.take i)) (rd_T33 l (i : Int)) = ⟨(crun n.toNat (l.take i)).K.set (thr l i) (ck n l i), clkM (crun n.toNat (l.take i)) (rd_T33 l (i : Int)) (ck n l i), (crun n.toNat (l.take i)).O ++ [ck n l i]⟩ := by
      rw [hn]; rfl
    rw [e]
    refine ⟨fun t ht => ?_, fun x => ?_⟩
    · simp only
      rw [getD_set2 _ _ _ _ (by rw [hK]; unfold thr; omega)]
      by_cases e2 : t = thr l i
      · have e3 : lastT l t (i + 1) = (i : Int) := by
          show (if _ then _ else _) = _
          rw [if_pos e2.symm]
        rw [if_pos e2, e3, if_neg (show ¬ (i : Int) < 0 by omega), Int.toNat_natCast]
      · have e3 : lastT l t (i + 1) = lastT l t i := by
          show (if _ then _ else _) = _
          rw [if_neg (fun e4 => e2 e4.symm)]
        rw [if_neg e2, e3]
        exact i1 t ht
    · simp only [clkM]
      cases hc : (atomB (rd_T33 l (i : Int)).f1 && wrB (rd_T33 l (i : Int)).f1) with
      | false =>
        have e3 : lastW l x (i + 1) = lastW l x i := by
          show (if _ then _ else _) = _
          rw [if_neg (fun e4 => by rw [hc] at e4; exact absurd e4.1 (by decide))]
        rw [if_neg (by decide), e3]
        exact i2 x
      | true =>
        rw [if_pos rfl]
        by_cases e2 : x = (rd_T33 l (i : Int)).f2
        · have e3 : lastW l x (i + 1) = (i : Int) := by
            show (if _ then _ else _) = _
            rw [if_pos ⟨hc, e2⟩]
          rw [e3, if_neg (show ¬ (i : Int) < 0 by omega), Int.toNat_natCast]
          simp only [if_pos e2]
        · have e3 : lastW l x (i + 1) = lastW l x i := by
            show (if _ then _ else _) = _
            rw [if_neg (fun e4 => e2 e4.2)]
          rw [e3]
          simp only [if_neg e2]
          exact i2 x
/-- an access's own count is above whatever was known ahead of it -/
theorem own_new {n : Int} {l : List S33} (h : rightB n l = true) (hl : l.length ≤ 1000000) {i : Nat} (hi : i < l.length) (c : List Int) (hc : InS n.toNat (crun n.toNat (l.take i)) c) : rd c (thr l i : Int) < rd (ck n l i) (thr l i : Int) := by
  have hp := (rightB_parts h)
  have hp2 := hp.2.2 i hi
  have hI := inv_run h hl i (by omega)
  have ht : thr l i < n.toNat := by unfold thr; omega
  obtain ⟨_, l2⟩ := clk1_rd (t := thr l i) hI (by omega) (by omega) (by omega) ht (a := rd_T33 l (i : Int)) (by unfold thr; omega)
  have h1 := l2 _ ht
  have h2 := hI.own c hc _ ht
  rw [if_pos rfl] at h1
  rw [ck_new hi]
  omega
theorem ck_in_take {n : Int} {l : List S33} {i j : Nat} (hi : i ≤ l.length) (hj : j < i) : InS n.toNat (crun n.toNat (l.take i)) (ck n l j) := by
  refine .inr (.inr ?_)
  rw [← ck_pre hi hj]
  have hO := crun_O n.toNat (l.take i)
  rw [List.getD_eq_getElem?_getD, List.getElem?_eq_getElem (by rw [hO, List.length_take]; omega)]
  exact List.getElem_mem _
theorem kn_later {n : Int} {l : List S33} (h : rightB n l = true) (hl : l.length ≤ 1000000) {j k : Nat} (hk : k < l.length) (hjk : j < k) : kn n l j k = false := by
  have := own_new h hl hk _ (ck_in_take (Nat.le_of_lt hk) hjk)
  simp only [kn, decide_eq_false_iff_not]
  omega
theorem kn_self (n : Int) (l : List S33) (j : Nat) : kn n l j j = true := by simp [kn]
theorem own_pos {n : Int} {l : List S33} (h : rightB n l = true) (hl : l.length ≤ 1000000) {k : Nat} (hk : k < l.length) : 0 < rd (ck n l k) (thr l k : Int) := by
  have hp := (rightB_parts h).2.2 k hk
  have ht : thr l k < n.toNat := by unfold thr; omega
  have hI := inv_run h hl k (by omega)
  have h1 := own_new h hl hk _ (.inl ⟨thr l k, ht, rfl⟩)
  have h2 := (hI.cl _ (.inl ⟨thr l k, ht, rfl⟩)).2 _ ht
  omega
/-- from which access an access reads, if it is atomic -/
def srcA (l : List S33) (i : Nat) : Int := if atomB (rd_T33 l (i : Int)).f1 = true then (if rdB (rd_T33 l (i : Int)).f1 = true then lastW l (rd_T33 l (i : Int)).f2 i else -1) else -1
theorem mix_is {n : Int} {l : List S33} (h : rightB n l = true) (hl : l.length ≤ 1000000) {i : Nat} (hi : i < l.length) : mixC (crun n.toNat (l.take i)) (rd_T33 l (i : Int)) (thr l i) = if srcA l i < 0 then (crun n.toNat (l.take i)).K.getD (thr l i) [] else ck n l (srcA l i).toNat := by
  have hM := (state_is h hl i (by omega)).2 (rd_T33 l (i : Int)).f2
  unfold mixC srcA
  cases ha : atomB (rd_T33 l (i : Int)).f1 with
  | false => simp
  | true =>
    cases hb : rdB (rd_T33 l (i : Int)).f1 with
    | false => simp
    | true =>
      rw [if_pos rfl, if_pos rfl, hM]
      by_cases e : lastW l (rd_T33 l (i : Int)).f2 i < 0
      · rw [if_pos e, if_pos e]; simp
      · rw [if_neg e, if_neg e]; simp
theorem srcA_bound (l : List S33) (i : Nat) : -1 ≤ srcA l i ∧ srcA l i < i := by
  have := lastW_bound l (rd_T33 l (i : Int)).f2 i
  unfold srcA
  split
  · split <;> omega
  · omega
/-- whether k stands behind an earlier one, false otherwise -/
def tb (n : Int) (l : List S33) (i k : Nat) : Bool := decide (k < i) && kn n l i k
theorem tb_row {n : Int} {l : List S33} (h : rightB n l = true) (hl : l.length ≤ 1000000) {i k : Nat} (hi : i < l.length) (hk : k < i) :
    tb n l i k = (decide ((k : Int) = lastT l (thr l i) i) || decide ((k : Int) = srcA l i) || (decide (0 ≤ lastT l (thr l i) i) && tb n l (lastT l (thr l i) i).toNat k) || (decide (0 ≤ srcA l i) && tb n l (srcA l i).toNat k)) := by
  have hp := rightB_parts h
  have hp2 := hp.2.2 i hi
  have hp3 := hp.2.2 k (by omega)
  have hI := inv_run h hl i (by omega)
  have ht : thr l i < n.toNat := by unfold thr; omega
  have htk : thr l k < n.toNat := by unfold thr; omega
  obtain ⟨_, l2⟩ := clk1_rd (t := thr l i) hI (by omega) (by omega) (by omega) ht (a := rd_T33 l (i : Int)) (by unfold thr; omega)
  have h1 := l2 _ htk
  rw [mix_is h hl hi, ← ck_new hi] at h1
  have hKs := (state_is h hl i (by omega)).1 _ ht
  have hpos := own_pos h hl (show k < l.length by omega)
  have hTb := lastT_bound l (thr l i) i
  have hSb := srcA_bound l i
  -- what access m knows of k, as the table has it
  have known : ∀ m : Nat, m < i → (decide (rd (ck n l k) (thr l k : Int) ≤ rd (ck n l m) (thr l k : Int)) = (decide (k = m) || tb n l m k)) := by
    intro m hm
    show kn n l m k = _
    unfold tb
    rcases Nat.lt_trichotomy k m with e | e | e
    · rw [decide_eq_true e, decide_eq_false (show ¬ k = m by omega)]; simp
    · subst e; rw [kn_self]; simp
    · rw [kn_later h hl (show k < l.length by omega) e, decide_eq_false (show ¬ k < m by omega), decide_eq_false (show ¬ k = m by omega)]; simp
  have hzero : ¬ rd (ck n l k) (thr l k : Int) ≤ rd (List.replicate n.toNat 0) (thr l k : Int) := by rw [rd_rep]; omega
  have hKk : decide (rd (ck n l k) (thr l k : Int) ≤ rd ((crun n.toNat (l.take i)).K.getD (thr l i) []) (thr l k : Int)) = (decide ((k : Int) = lastT l (thr l i) i) || (decide (0 ≤ lastT l (thr l i) i) && tb n l (lastT l (thr l i) i).toNat k)) := by
    rw [hKs]
    by_cases e : lastT l (thr l i) i < 0
    · rw [if_pos e, decide_eq_false hzero, decide_eq_false (show ¬ (k : Int) = lastT l (thr l i) i by omega), decide_eq_false (show ¬ 0 ≤ lastT l (thr l i) i by omega)]; simp
    · rw [if_neg e, known _ (by omega), decide_eq_true (show 0 ≤ lastT l (thr l i) i by omega), Bool.true_and]
      congr 1
      rw [decide_eq_decide]
      omega
  have hSk : srcA l i < 0 ∨ decide (rd (ck n l k) (thr l k : Int) ≤ rd (ck n l (srcA l i).toNat) (thr l k : Int)) = (decide ((k : Int) = srcA l i) || (decide (0 ≤ srcA l i) && tb n l (srcA l i).toNat k)) := by
    by_cases e : srcA l i < 0
    · exact .inl e
    · refine .inr ?_
      rw [known _ (by omega), decide_eq_true (show 0 ≤ srcA l i by omega), Bool.true_and]
      congr 1
      rw [decide_eq_decide]
      omega
  have hlast := hI.last k hk _ htk
  rw [ck_pre (by omega) hk] at hlast
  have hL : tb n l i k = decide (rd (ck n l k) (thr l k : Int) ≤ rd (ck n l i) (thr l k : Int)) := by unfold tb; rw [decide_eq_true hk, Bool.true_and]; rfl
  rw [hL]
  have hgoal : decide (rd (ck n l k) (thr l k : Int) ≤ rd (ck n l i) (thr l k : Int)) = (decide (rd (ck n l k) (thr l k : Int) ≤ rd ((crun n.toNat (l.take i)).K.getD (thr l i) []) (thr l k : Int)) || (decide (0 ≤ srcA l i) && decide (rd (ck n l k) (thr l k : Int) ≤ rd (ck n l (srcA l i).toNat) (thr l k : Int)))) := by
    rw [Bool.eq_iff_iff]
    simp only [Bool.or_eq_true, Bool.and_eq_true, decide_eq_true_eq]
    by_cases e : thr l k = thr l i
    · have h3 : rd (ck n l k) (thr l k : Int) ≤ rd ((crun n.toNat (l.take i)).K.getD (thr l i) []) (thr l k : Int) := by rw [← e]; exact hlast
      refine ⟨fun _ => .inl h3, fun _ => ?_⟩
      rw [if_pos e] at h1
      omega
    · rw [if_neg e] at h1
      by_cases e2 : srcA l i < 0
      · rw [if_pos e2] at h1
        constructor
        · intro h4; exact .inl (by omega)
        · rintro (h4 | h4)
          · omega
          · omega
      · rw [if_neg e2] at h1
        constructor
        · intro h4
          by_cases e3 : rd (ck n l k) (thr l k : Int) ≤ rd (ck n l (srcA l i).toNat) (thr l k : Int)
          · exact .inr ⟨by omega, e3⟩
          · exact .inl (by omega)
        · rintro (h4 | h4)
          · omega
          · omega
  rw [hgoal, hKk]
  by_cases e5 : srcA l i < 0
  · rw [decide_eq_false (show ¬ 0 ≤ srcA l i by omega), decide_eq_false (show ¬ (k : Int) = srcA l i by omega)]
    simp
  · rcases hSk with e | e
    · exact absurd e e5
    · rw [e, decide_eq_true (show 0 ≤ srcA l i by omega), Bool.true_and, Bool.true_and]
      cases decide ((k : Int) = lastT l (thr l i) i) <;> cases decide ((k : Int) = srcA l i) <;> cases (decide (0 ≤ lastT l (thr l i) i) && tb n l (lastT l (thr l i) i).toNat k) <;> rfl

/-! The reference's functions, told. -/
theorem right_tot2_loop {n : Int} {l : List S33} (hl : l.length < 9223372036854775807) (d : Nat) : ∀ (k i : Nat) (ok : Bool), i + d = l.length → d < k → sakiaref13_Right.l0 k n l ok i = some (ok && (l.drop i).all (okA n)) := by
  induction d with
  | zero =>
    intro k i ok hi hk
    obtain ⟨k, rfl⟩ : ∃ m, k = m + 1 := ⟨k - 1, by omega⟩
    simp only [sakiaref13_Right.l0]
    rw [if_neg (show ¬ (i : Int) < (l.length : Int) by omega), List.drop_of_length_le (by omega)]
    simp
  | succ d ih =>
    intro k i ok hi hk
    obtain ⟨k, rfl⟩ : ∃ m, k = m + 1 := ⟨k - 1, by omega⟩
    simp only [sakiaref13_Right.l0]
    rw [if_pos (show (i : Int) < (l.length : Int) by omega), if_pos (show (0 : Int) ≤ (i : Int) by omega), T33_drop l i (by omega), List.all_cons, wrap_succ i (by omega)]
    have hR := fun o => ih k (i + 1) o (by omega) (by omega)
    generalize (List.drop (i + 1) l).all (okA n) = R at *
    generalize rd_T33 l (i : Int) = a
    unfold okA
    rw [hR, hR]
    cases ok with
    | false => simp
    | true =>
      rw [if_pos rfl]
      by_cases c1 : a.f0 ≥ 0
      · rw [if_pos c1, decide_eq_true (show 0 ≤ a.f0 by omega)]
        by_cases c2 : a.f0 < n
        · rw [if_pos c2, decide_eq_true c2]
          by_cases c3 : a.f1 > 0
          · rw [if_pos c3, decide_eq_true (show 1 ≤ a.f1 by omega)]
            by_cases c4 : a.f1 < 8
            · rw [if_pos c4, decide_eq_true (show a.f1 ≤ 7 by omega)]
              simp
            · rw [if_neg c4, decide_eq_false (show ¬ a.f1 ≤ 7 by omega)]; simp
          · rw [if_neg c3, decide_eq_false (show ¬ 1 ≤ a.f1 by omega)]; simp
        · rw [if_neg c2, decide_eq_false c2]; simp
      · rw [if_neg c1, decide_eq_false (show ¬ 0 ≤ a.f0 by omega)]; simp
theorem right_tot2 {n : Int} {l : List S33} {k : Nat} (hl : l.length < 9223372036854775807) (hk : l.length + 1 < k) : sakiaref13_Right.f k n l = some (rightB n l) := by
  obtain ⟨k, rfl⟩ : ∃ m, k = m + 1 := ⟨k - 1, by omega⟩
  have h := fun o => right_tot2_loop (n := n) hl l.length k 0 o (by omega) (by omega)
  unfold sakiaref13_Right.f rightB
  simp only [sakiaref13_Right.j0]
  rw [show ((0 : Nat) : Int) = 0 from rfl] at h
  rw [h, h, List.drop_zero]
  by_cases h1 : n > 0
  · rw [if_pos h1, decide_eq_true (show 1 ≤ n by omega), Bool.true_and]
    congr 2
    rw [decide_eq_decide]
    omega
  · rw [if_neg h1, decide_eq_false (show ¬ 1 ≤ n by omega)]; simp
theorem ahead_loop {n : Int} {l : List S33} (h : rightB n l = true) (hl : l.length ≤ 1000000) {i : Nat} (hi : i < l.length) (d : Nat) : ∀ (k m : Nat), m + d = i → d < k → sakiaref13_ahead.l0 k l i (lastT l (thr l i) m) m = some (lastT l (thr l i) i) := by
  have hp := (rightB_parts h).2.2
  have hpi := hp i hi
  induction d with
  | zero =>
    intro k m hm hk
    obtain ⟨k, rfl⟩ : ∃ m, k = m + 1 := ⟨k - 1, by omega⟩
    obtain rfl : m = i := by omega
    simp only [sakiaref13_ahead.l0]
    first | rw [if_neg (Int.lt_irrefl _)] | simp
  | succ d ih =>
    intro k m hm hk
    obtain ⟨k, rfl⟩ : ∃ m, k = m + 1 := ⟨k - 1, by omega⟩
    have hpm := hp m (by omega)
    simp only [sakiaref13_ahead.l0]
    rw [if_pos (show (m : Int) < (i : Int) by omega), if_pos (show (0 : Int) ≤ (m : Int) by omega), if_pos (show (m : Int) < (l.length : Int) by omega), if_pos (show (0 : Int) ≤ (i : Int) by omega), if_pos (show (i : Int) < (l.length : Int) by omega), wrap_succ m (by omega)]
    by_cases e : thr l m = thr l i
    · have e2 : lastT l (thr l i) (m + 1) = (m : Int) := by
        show (if _ then _ else _) = _
        rw [if_pos e]
      rw [if_pos (by unfold thr at e; omega)]
      have := ih k (m + 1) (by omega) (by omega)
      rwa [e2] at this
    · have e2 : lastT l (thr l i) (m + 1) = lastT l (thr l i) m := by
        show (if _ then _ else _) = _
        rw [if_neg e]
      rw [if_neg (fun e3 => e (by unfold thr; rw [e3]))]
      have := ih k (m + 1) (by omega) (by omega)
      rwa [e2] at this
theorem ahead_tot {n : Int} {l : List S33} (h : rightB n l = true) (hl : l.length ≤ 1000000) {i k : Nat} (hi : i < l.length) (hk : l.length + 1 < k) : sakiaref13_ahead.f k l i = some (lastT l (thr l i) i) := by
  unfold sakiaref13_ahead.f
  exact ahead_loop h hl hi i k 0 (by omega) (by omega)
theorem atom_plain {k : Int} (h : atomB k = true) : plainK k = false := by
  simp only [atomB, Bool.and_eq_true, decide_eq_true_eq] at h
  simp only [plainK, Bool.or_eq_false_iff, decide_eq_false_iff_not]
  omega
theorem srcG_is (l : List S33) (b : S33) (hb : atomB b.f1 = true) : ∀ i, srcG l b i = lastW l b.f2 i := by
  intro i
  induction i with
  | zero => rfl
  | succ i ih =>
    unfold srcG lastW
    rw [ih]
    generalize rd_T33 l (i : Int) = a
    have e : srcM a b = true ↔ ((atomB a.f1 && wrB a.f1) = true ∧ b.f2 = a.f2) := by
      unfold srcM
      rw [hb, atom_plain hb]
      simp only [Bool.and_eq_true, decide_eq_true_eq, beq_iff_eq]
      constructor
      · rintro ⟨⟨⟨h1, h2⟩, _⟩, h4⟩
        exact ⟨⟨h4, h2⟩, h1.symm⟩
      · rintro ⟨⟨h1, h2⟩, h3⟩
        exact ⟨⟨⟨h3.symm, h2⟩, atom_plain h1⟩, h1⟩
    by_cases c : srcM a b = true
    · rw [if_pos c, if_pos (e.1 c)]
    · rw [if_neg c, if_neg (fun h => c (e.2 h))]
theorem source_tot (l : List S33) {i : Nat} (hi : i < l.length) (ha : atomB (rd_T33 l (i : Int)).f1 = true) : sakiaref13_Source.f l i = some (srcA l i) := by
  unfold sakiaref13_Source.f srcA
  rw [if_neg (by omega), if_neg (by omega), if_pos ha]
  by_cases hr : rdB (rd_T33 l (i : Int)).f1 = true
  · rw [if_pos hr, if_pos hr, srcG_is l _ ha, Int.toNat_natCast]
  · rw [if_neg hr, if_neg hr]
/-- a row of the table: the first m places told -/
def rowU (n : Int) (l : List S33) (i m : Nat) : List Bool := (List.range l.length).map fun k => decide (k < m) && tb n l i k
theorem rowU_len (n : Int) (l : List S33) (i m : Nat) : (rowU n l i m).length = l.length := by simp [rowU]
theorem rowU_rd (n : Int) (l : List S33) (i m k : Nat) (hk : k < l.length) : rdOf false (rowU n l i m) (k : Int) = (decide (k < m) && tb n l i k) := by
  unfold rdOf rowU
  rw [Int.toNat_natCast, List.getD_eq_getElem?_getD, List.getElem?_map, List.getElem?_range hk]
  rfl
theorem rowU_zero (n : Int) (l : List S33) (i : Nat) : rowU n l i 0 = List.replicate l.length false := by
  apply List.ext_getElem
  · simp [rowU]
  · intro j h1 h2; simp [rowU]
theorem rowU_set (n : Int) (l : List S33) (i m : Nat) (hm : m < l.length) : (rowU n l i m).set m (tb n l i m) = rowU n l i (m + 1) := by
  apply List.ext_getElem
  · simp [rowU]
  · intro j h1 h2
    rw [List.getElem_set]
    by_cases e : m = j
    · subst e; simp [rowU]
    · rw [if_neg e]
      simp only [rowU, List.getElem_map, List.getElem_range]
      congr 1
      rw [decide_eq_decide]
      omega
def rowT (n : Int) (l : List S33) (i : Nat) : List Bool := rowU n l i l.length
theorem rowT_rd (n : Int) (l : List S33) (i k : Nat) (hk : k < l.length) : rdOf false (rowT n l i) (k : Int) = tb n l i k := by
  unfold rowT
  rw [rowU_rd n l i _ k hk, decide_eq_true hk, Bool.true_and]
theorem rowU_full (n : Int) (l : List S33) (i : Nat) : rowU n l i i = rowT n l i := by
  unfold rowT rowU
  apply List.map_congr_left
  intro k hk
  have := List.mem_range.1 hk
  rw [decide_eq_true this, Bool.true_and]
  by_cases e : k < i
  · rw [decide_eq_true e, Bool.true_and]
  · unfold tb
    rw [decide_eq_false e]; rfl
def tabT (n : Int) (l : List S33) (i : Nat) : List (List Bool) := (List.range i).map (rowT n l)
theorem tabT_len (n : Int) (l : List S33) (i : Nat) : (tabT n l i).length = i := by simp [tabT]
theorem tabT_rd (n : Int) (l : List S33) (i j : Nat) (hj : j < i) : rd_L6 (tabT n l i) (j : Int) = rowT n l j := by
  unfold rd_L6 tabT
  rw [Int.toNat_natCast, List.getD_eq_getElem?_getD, List.getElem?_map, List.getElem?_range hj]
  rfl
theorem tabT_succ (n : Int) (l : List S33) (i : Nat) : tabT n l i ++ [rowT n l i] = tabT n l (i + 1) := by
  unfold tabT
  rw [List.range_succ, List.map_append]
  rfl
/-- one place of a row -/
theorem l1_step {n : Int} {l : List S33} (hl : l.length ≤ 1000000) {i m k : Nat} {p s : Int} (hi : i < l.length) (hm : m < i) (hp : p < i) (hs : s < i) (hp0 : -1 ≤ p) (hs0 : -1 ≤ s)
    (hv : tb n l i m = (decide ((m : Int) = p) || decide ((m : Int) = s) || (decide (0 ≤ p) && tb n l p.toNat m) || (decide (0 ≤ s) && tb n l s.toNat m))) :
    sakiaref13_Table.l1 (k + 1) l (tabT n l i) i (rowU n l i m) p s m = sakiaref13_Table.l1 k l (tabT n l i) i (rowU n l i (m + 1)) p s ((m + 1 : Nat) : Int) := by
  have hset := rowU_set n l i m (by omega)
  have hrow : ∀ q : Int, 0 ≤ q → q < i → rd_L6 (tabT n l i) q = rowT n l q.toNat := fun q h1 h2 => by
    have := tabT_rd n l i q.toNat (by omega)
    rwa [Int.toNat_of_nonneg h1] at this
  simp only [sakiaref13_Table.l1]
  rw [if_pos (show (m : Int) < (i : Int) by omega), wrap_succ m (by omega), rowU_len, tabT_len, Int.toNat_natCast]
  by_cases e1 : (m : Int) = p
  · rw [decide_eq_true e1] at hv
    simp only [Bool.true_or] at hv
    rw [hv] at hset
    rw [if_pos e1, if_pos (show (0 : Int) ≤ (m : Int) by omega), if_pos (show (m : Int) < (l.length : Int) by omega), hset]
  rw [if_neg e1]
  rw [decide_eq_false e1, Bool.false_or] at hv
  by_cases e2 : (m : Int) = s
  · rw [decide_eq_true e2] at hv
    simp only [Bool.true_or] at hv
    rw [hv] at hset
    rw [if_pos e2, if_pos (show (0 : Int) ≤ (m : Int) by omega), if_pos (show (m : Int) < (l.length : Int) by omega), hset]
  rw [if_neg e2]
  rw [decide_eq_false e2, Bool.false_or] at hv
  by_cases e3 : p ≥ 0
  · rw [decide_eq_true (show 0 ≤ p by omega), Bool.true_and] at hv
    rw [if_pos e3, if_pos (show 0 ≤ p by omega), if_pos (show p < (i : Int) by omega), if_pos (show (0 : Int) ≤ (m : Int) by omega), hrow p (by omega) hp]
    rw [show (rowT n l p.toNat).length = l.length from rowU_len _ _ _ _, if_pos (show (m : Int) < (l.length : Int) by omega), rowT_rd _ _ _ _ (by omega)]
    by_cases e4 : tb n l p.toNat m = true
    · rw [e4, Bool.true_or] at hv
      rw [hv] at hset
      rw [if_pos e4, if_pos (show (m : Int) < (l.length : Int) by omega), hset]
    · rw [if_neg e4]
      rw [Bool.eq_false_iff.2 e4, Bool.false_or] at hv
      by_cases e5 : s ≥ 0
      · rw [decide_eq_true (show 0 ≤ s by omega), Bool.true_and] at hv
        rw [if_pos e5, if_pos (show 0 ≤ s by omega), if_pos (show s < (i : Int) by omega), hrow s (by omega) hs]
        rw [show (rowT n l s.toNat).length = l.length from rowU_len _ _ _ _, if_pos (show (m : Int) < (l.length : Int) by omega), if_pos (show (m : Int) < (l.length : Int) by omega), rowT_rd _ _ _ _ (by omega), ← hv, hset]
      · rw [decide_eq_false (show ¬ 0 ≤ s by omega), Bool.false_and] at hv
        rw [hv] at hset
        rw [if_neg e5, if_pos (show (m : Int) < (l.length : Int) by omega), hset]
  · rw [decide_eq_false (show ¬ 0 ≤ p by omega), Bool.false_and, Bool.false_or] at hv
    rw [if_neg e3]
    by_cases e5 : s ≥ 0
    · rw [decide_eq_true (show 0 ≤ s by omega), Bool.true_and] at hv
      rw [if_pos e5, if_pos (show 0 ≤ s by omega), if_pos (show s < (i : Int) by omega), if_pos (show (0 : Int) ≤ (m : Int) by omega), hrow s (by omega) hs]
      rw [show (rowT n l s.toNat).length = l.length from rowU_len _ _ _ _, if_pos (show (m : Int) < (l.length : Int) by omega), if_pos (show (m : Int) < (l.length : Int) by omega), rowT_rd _ _ _ _ (by omega), ← hv, hset]
    · rw [decide_eq_false (show ¬ 0 ≤ s by omega), Bool.false_and] at hv
      rw [hv] at hset
      rw [if_neg e5, if_pos (show (0 : Int) ≤ (m : Int) by omega), if_pos (show (m : Int) < (l.length : Int) by omega), hset]
theorem l1_row {n : Int} {l : List S33} (h : rightB n l = true) (hl : l.length ≤ 1000000) {i : Nat} (hi : i < l.length) (d : Nat) : ∀ (k m : Nat), m + d = i → sakiaref13_Table.l1 (k + 1 + d) l (tabT n l i) i (rowU n l i m) (lastT l (thr l i) i) (srcA l i) m = sakiaref13_Table.l0 k l (tabT n l (i + 1)) ((i + 1 : Nat) : Int) := by
  have b1 := lastT_bound l (thr l i) i
  have b2 := srcA_bound l i
  induction d with
  | zero =>
    intro k m hm
    obtain rfl : m = i := by omega
    simp only [Nat.add_zero, sakiaref13_Table.l1]
    rw [rowU_full, tabT_len, wrap_succ m (by omega), tabT_succ]
    first | rw [if_neg (Int.lt_irrefl _), if_pos (by omega)] | (simp; omega)
  | succ d ih =>
    intro k m hm
    rw [show k + 1 + (d + 1) = (k + 1 + d) + 1 by omega, l1_step hl hi (by omega) b1.2 b2.2 b1.1 b2.1 (tb_row h hl hi (by omega))]
    exact ih k (m + 1) (by omega)
/-- rounds that the table takes from row i on -/
def tabK (L : Nat) : Nat → Nat
  | 0 => L + 10
  | d + 1 => tabK L d + 2 * L + 10
theorem l0_tab {n : Int} {l : List S33} (h : rightB n l = true) (hl : l.length ≤ 1000000) (d : Nat) : ∀ (k i : Nat), i + d = l.length → tabK l.length d ≤ k → sakiaref13_Table.l0 k l (tabT n l i) i = some (tabT n l l.length) := by
  induction d with
  | zero =>
    intro k i hi hk
    obtain ⟨k, rfl⟩ : ∃ m, k = m + 1 := ⟨k - 1, by unfold tabK at hk; omega⟩
    obtain rfl : i = l.length := by omega
    simp only [sakiaref13_Table.l0]
    first | rw [if_neg (Int.lt_irrefl _)] | simp
  | succ d ih =>
    intro k i hi hk
    have hi2 : i < l.length := by omega
    unfold tabK at hk
    have hkk : l.length + 10 ≤ tabK l.length d := by
      clear ih hk hi
      induction d with
      | zero => exact Nat.le_refl _
      | succ d ih => unfold tabK; omega
    obtain ⟨k, rfl⟩ : ∃ m, k = m + 1 + i + 1 + 1 := ⟨k - 3 - i, by omega⟩
    simp only [sakiaref13_Table.l0]
    have hat := source_tot l hi2
    rw [if_pos (show (i : Int) < (l.length : Int) by omega), if_pos (show (0 : Int) ≤ (l.length : Int) by omega), Int.toNat_natCast, if_pos (by omega), Option.bind_some, ahead_tot h hl hi2 (by omega), Option.bind_some, if_pos (show (0 : Int) ≤ (i : Int) by omega), atom_is2, Option.bind_some, ← rowU_zero n l i]
    have hfin : sakiaref13_Table.j1 (k + 1 + i + 1) l (tabT n l i) i (rowU n l i 0) (lastT l (thr l i) i) (srcA l i) = some (tabT n l l.length) := by
      simp only [sakiaref13_Table.j1]
      have := l1_row h hl hi2 i k 0 (by omega)
      rw [show ((0 : Nat) : Int) = 0 from rfl] at this
      rw [this]
      exact ih k (i + 1) (by omega) (by omega)
    by_cases e : atomB (rd_T33 l (i : Int)).f1 = true
    · rw [if_pos e, hat e, Option.bind_some]
      exact hfin
    · rw [if_neg e]
      have : srcA l i = -1 := by unfold srcA; rw [if_neg e]
      rw [this] at hfin
      exact hfin
theorem tabK_bound (L : Nat) : ∀ d, d ≤ 150 → L ≤ 150 → tabK L d ≤ 160 + 310 * d := by
  intro d
  induction d with
  | zero => intro _ _; unfold tabK; omega
  | succ d ih => intro h1 h2; have := ih (by omega) h2; unfold tabK; omega
theorem table_tot {n : Int} {l : List S33} (h : rightB n l = true) (hl : l.length ≤ 150) {k : Nat} (hk : 50000 ≤ k) : sakiaref13_Table.f k l = some (tabT n l l.length) := by
  unfold sakiaref13_Table.f
  have := tabK_bound l.length l.length hl hl
  exact l0_tab h (by omega) l.length k 0 (by omega) (by omega)

theorem live_tot : ∀ k, 100 ≤ k → sakialaw13_live.f k = some true := by
  intro k hk
  have h : sakialaw13_live.f 100 = some true := by kernel_rfl
  obtain ⟨d, rfl⟩ : ∃ d, k = 100 + d := ⟨k - 100, by omega⟩
  clear hk
  induction d with
  | zero => exact h
  | succ d ih => exact sakialaw13_live.mono _ _ ih

def behindB (n : Int) (l : List S33) (i j : Int) : Bool := rightB n l && decide (i < (l.length : Int)) && decide (0 ≤ j) && decide (j < i) && kn n l i.toNat j.toNat
theorem Behind_tot {n : Int} {l : List S33} {k : Nat} (hl : l.length ≤ 1000000) (hk : 30 ≤ k) (hk2 : l.length + 10 < k) (hw : ∀ x ∈ l, x.f2 < 9223372036854775808) (i j : Int) : order_Behind.f k n l i j = some (behindB n l i j) := by
  obtain ⟨k, rfl⟩ : ∃ m, k = m + 1 := ⟨k - 1, by omega⟩
  unfold order_Behind.f behindB
  rw [right_tot (by omega) (by omega), Option.bind_some]
  cases hr : rightB n l with
  | false => rw [if_neg (by decide)]; simp [order_Behind.j0]
  | true =>
    rw [if_pos rfl]
    by_cases h1 : i ≥ (l.length : Int)
    · rw [if_pos h1, decide_eq_false (show ¬ i < (l.length : Int) by omega)]; simp [order_Behind.j0]
    · rw [if_neg h1, decide_eq_true (show i < (l.length : Int) by omega)]
      by_cases h2 : j < 0
      · rw [if_pos h2, decide_eq_false (show ¬ 0 ≤ j by omega)]; simp [order_Behind.j0]
      · rw [if_neg h2, decide_eq_true (show 0 ≤ j by omega)]
        simp only [order_Behind.j0]
        by_cases h3 : i ≤ j
        · rw [decide_eq_true h3, if_pos rfl, decide_eq_false (show ¬ j < i by omega)]; simp
        · rw [decide_eq_false h3, if_neg (by decide), clocks_tot hr hl (by omega) (by omega) hw, Option.bind_some, decide_eq_true (show j < i by omega)]
          have e1 : i = ((i.toNat : Nat) : Int) := by omega
          have e2 : j = ((j.toNat : Nat) : Int) := by omega
          have := behind_tot (k := k) hr hl (i := i.toNat) (j := j.toNat) (by omega) (by omega) (by omega)
          rw [← e1, ← e2] at this
          rw [this]
          simp

/-! Clocks count what an access stands behind. -/
theorem map_set {α : Type} (n t : Nat) (f : Nat → α) (v : α) : ((List.range n).map f).set t v = (List.range n).map fun u => if u = t then v else f u := by
  apply List.ext_getElem
  · simp
  · intro j h1 h2
    rw [List.getElem_set]
    simp only [List.getElem_map, List.getElem_range]
    by_cases e : t = j
    · rw [if_pos e, if_pos e.symm]
    · rw [if_neg e, if_neg (fun h => e h.symm)]
theorem map_zero {α : Type} (n : Nat) (f : Nat → α) (z : α) (h : ∀ u, u < n → f u = z) : (List.range n).map f = List.replicate n z := by
  apply List.ext_getElem
  · simp
  · intro j h1 h2
    simp only [List.length_map, List.length_range] at h1
    simp [h j h1]
theorem map_rd (n t : Nat) (f : Nat → Int) (h : t < n) : rd ((List.range n).map f) (t : Int) = f t := by
  rw [rd_get2, List.getElem?_map, List.getElem?_range h]
  rfl
/-- accesses of a thread among the first m that are so -/
def cnt (l : List S33) (t : Nat) (p : Nat → Bool) : Nat → Int
  | 0 => 0
  | m + 1 => if thr l m = t ∧ p m = true then cnt l t p m + 1 else cnt l t p m
theorem cnt_bound (l : List S33) (t : Nat) (p : Nat → Bool) : ∀ m, 0 ≤ cnt l t p m ∧ cnt l t p m ≤ m := by
  intro m
  induction m with
  | zero => simp [cnt]
  | succ m ih => unfold cnt; split <;> omega
theorem cnt_succ (l : List S33) (t : Nat) (p : Nat → Bool) (m : Nat) : cnt l t p (m + 1) = if thr l m = t ∧ p m = true then cnt l t p m + 1 else cnt l t p m := rfl
theorem cnt_step (n : Nat) (l : List S33) (p : Nat → Bool) (m : Nat) (hp : p m = true) (ht : thr l m < n) : ((List.range n).map fun t => cnt l t p m).set (thr l m) (cnt l (thr l m) p m + 1) = (List.range n).map fun t => cnt l t p (m + 1) := by
  rw [map_set]
  apply List.map_congr_left
  intro u _
  rw [cnt_succ]
  by_cases e : u = thr l m
  · rw [if_pos e, if_pos ⟨e.symm, hp⟩, e]
  · rw [if_neg e, if_neg (fun h => e h.1.symm)]
theorem cnt_same (n : Nat) (l : List S33) (p : Nat → Bool) (m : Nat) (hp : p m = false) : ((List.range n).map fun t => cnt l t p m) = (List.range n).map fun t => cnt l t p (m + 1) := by
  apply List.map_congr_left
  intro u _
  rw [cnt_succ, if_neg (fun h => by rw [hp] at h; exact absurd h.2 (by decide))]
theorem cnt_congr (l : List S33) (t : Nat) (p q : Nat → Bool) : ∀ m, (∀ j, j < m → thr l j = t → p j = q j) → cnt l t p m = cnt l t q m := by
  intro m
  induction m with
  | zero => intro _; rfl
  | succ m ih =>
    intro h
    rw [cnt_succ, cnt_succ, ih (fun j hj => h j (by omega))]
    by_cases e : thr l m = t
    · rw [h m (by omega) e]
    · rw [if_neg (fun h => e h.1), if_neg (fun h => e h.1)]
def tot (l : List S33) (t m : Nat) : Int := cnt l t (fun _ => true) m
theorem tot_is {n : Int} {l : List S33} (h : rightB n l = true) (hl : l.length ≤ 1000000) : ∀ i, i ≤ l.length → ∀ t : Nat, t < n.toNat → rd ((crun n.toNat (l.take i)).K.getD t []) (t : Int) = tot l t i := by
  intro i
  induction i with
  | zero =>
    intro _ t ht
    have : (crun n.toNat (l.take 0)).K.getD t [] = List.replicate n.toNat 0 := by simp [crun, cs0, List.getD_eq_getElem?_getD, List.getElem?_replicate, ht]
    rw [this, rd_rep]
    rfl
  | succ i ih =>
    intro hi t ht
    have hp := rightB_parts h
    have hp2 := hp.2.2 i (by omega)
    have hI := inv_run h hl i (by omega)
    have hti : thr l i < n.toNat := by unfold thr; omega
    obtain ⟨_, l2⟩ := clk1_rd (t := thr l i) hI (by omega) (by omega) (by omega) hti (a := rd_T33 l (i : Int)) (by unfold thr; omega)
    have hK := crun_K n.toNat (l.take i)
    rw [crun_succ n.toNat l i (by omega), T33_get l i (by omega)]
    have e : (cstep (crun n.toNat (l.take i)) (rd_T33 l (i : Int))).K = (crun n.toNat (l.take i)).K.set (thr l i) (clk1 (crun n.toNat (l.take i)) (rd_T33 l (i : Int))) := rfl
    rw [e, getD_set2 _ _ _ _ (by rw [hK]; exact hti)]
    unfold tot
    rw [cnt_succ]
    by_cases e2 : t = thr l i
    · rw [if_pos e2, if_pos ⟨e2.symm, rfl⟩]
      have h1 := l2 t ht
      have h2 := hI.own _ (mixC_in (s := crun n.toNat (l.take i)) (a := rd_T33 l (i : Int)) hti) t ht
      have h3 := ih (by omega) t ht
      rw [if_pos e2] at h1
      rw [← e2] at h1 h2
      unfold tot at h3
      omega
    · rw [if_neg e2, if_neg (fun h => e2 h.1.symm)]
      exact ih (by omega) t ht
theorem own_is {n : Int} {l : List S33} (h : rightB n l = true) (hl : l.length ≤ 1000000) {i : Nat} (hi : i < l.length) : rd (ck n l i) (thr l i : Int) = tot l (thr l i) i + 1 := by
  have hp := (rightB_parts h).2.2 i hi
  have hn := rightB_parts h
  have hI := inv_run h hl i (by omega)
  have ht : thr l i < n.toNat := by unfold thr; omega
  obtain ⟨_, l2⟩ := clk1_rd (t := thr l i) hI (by omega) (by omega) (by omega) ht (a := rd_T33 l (i : Int)) (by unfold thr; omega)
  have h1 := l2 _ ht
  have h2 := hI.own _ (mixC_in (s := crun n.toNat (l.take i)) (a := rd_T33 l (i : Int)) ht) _ ht
  have h3 := tot_is h hl i (by omega) _ ht
  rw [if_pos rfl] at h1
  rw [ck_new hi]
  omega
theorem ck_le {n : Int} {l : List S33} (h : rightB n l = true) (hl : l.length ≤ 1000000) {i t : Nat} (hi : i < l.length) (ht : t < n.toNat) (hne : t ≠ thr l i) : 0 ≤ rd (ck n l i) (t : Int) ∧ rd (ck n l i) (t : Int) ≤ tot l t i := by
  have hp := (rightB_parts h).2.2 i hi
  have hn := rightB_parts h
  have hI := inv_run h hl i (by omega)
  have hti : thr l i < n.toNat := by unfold thr; omega
  obtain ⟨_, l2⟩ := clk1_rd (t := thr l i) hI (by omega) (by omega) (by omega) hti (a := rd_T33 l (i : Int)) (by unfold thr; omega)
  have h1 := l2 t ht
  have hKi : InS n.toNat (crun n.toNat (l.take i)) ((crun n.toNat (l.take i)).K.getD (thr l i) []) := .inl ⟨_, hti, rfl⟩
  have h2 := hI.own _ (mixC_in (s := crun n.toNat (l.take i)) (a := rd_T33 l (i : Int)) hti) t ht
  have h4 := hI.own _ hKi t ht
  have h5 := (hI.cl _ hKi).2 t ht
  have h3 := tot_is h hl i (by omega) t ht
  rw [if_neg hne] at h1
  rw [ck_new hi]
  omega
theorem cnt_min (l : List S33) (t : Nat) (v : Int) (hv : 0 ≤ v) : ∀ m, cnt l t (fun j => decide (tot l t j + 1 ≤ v)) m = min v (tot l t m) := by
  intro m
  induction m with
  | zero =>
    show (0 : Int) = min v 0
    omega
  | succ m ih =>
    have hb := (cnt_bound l t (fun _ => true) m).1
    unfold tot at *
    rw [cnt_succ, cnt_succ, ih]
    by_cases e : thr l m = t
    · rw [if_pos (show thr l m = t ∧ (fun _ => true) m = true from ⟨e, rfl⟩)]
      by_cases e2 : cnt l t (fun _ => true) m + 1 ≤ v
      · rw [if_pos ⟨e, decide_eq_true e2⟩]; omega
      · rw [if_neg (fun h => e2 (of_decide_eq_true h.2))]; omega
    · rw [if_neg (fun h => e h.1), if_neg (fun h => e h.1)]
/-- what access i stands behind, itself counted -/
def seen (n : Int) (l : List S33) (i j : Nat) : Bool := decide (j = i) || tb n l i j
theorem clock_cnt {n : Int} {l : List S33} (h : rightB n l = true) (hl : l.length ≤ 1000000) {i t : Nat} (hi : i < l.length) (ht : t < n.toNat) : cnt l t (seen n l i) (i + 1) = rd (ck n l i) (t : Int) := by
  have hb := (cnt_bound l t (fun _ => true) i).1
  have e1 : cnt l t (seen n l i) i = cnt l t (fun j => decide (tot l t j + 1 ≤ rd (ck n l i) (t : Int))) i := by
    refine cnt_congr l t _ _ i (fun j hj hjt => ?_)
    unfold seen tb kn
    rw [decide_eq_false (show ¬ j = i by omega), decide_eq_true hj, Bool.false_or, Bool.true_and, own_is h hl (by omega), hjt]
  rw [cnt_succ, e1]
  by_cases e : t = thr l i
  · have ho := own_is h hl hi
    rw [← e] at ho
    rw [if_pos ⟨e.symm, by unfold seen; simp⟩, cnt_min l t _ (by rw [ho]; unfold tot; omega), ho]
    omega
  · have hc := ck_le h hl hi ht e
    rw [if_neg (fun h => e h.1.symm), cnt_min l t _ hc.1]
    omega
theorem same_loop (a : List Int) (hl : a.length ≤ 1000000) (d : Nat) : ∀ (k i : Nat), i + d = a.length → d < k → sakiaref05_Same.l0 k a a i = some true := by
  induction d with
  | zero =>
    intro k i hi hk
    obtain ⟨k, rfl⟩ : ∃ m, k = m + 1 := ⟨k - 1, by omega⟩
    simp only [sakiaref05_Same.l0]
    rw [if_neg (show ¬ (i : Int) < (a.length : Int) by omega)]
  | succ d ih =>
    intro k i hi hk
    obtain ⟨k, rfl⟩ : ∃ m, k = m + 1 := ⟨k - 1, by omega⟩
    simp only [sakiaref05_Same.l0]
    rw [if_pos (show (i : Int) < (a.length : Int) by omega), if_pos (show (0 : Int) ≤ (i : Int) by omega), if_pos (show (i : Int) < (a.length : Int) by omega), wrap_succ i (by omega)]
    first | rw [if_pos rfl] | skip
    exact ih k (i + 1) (by omega) (by omega)
theorem same_tot (a : List Int) (hl : a.length ≤ 1000000) {k : Nat} (hk : a.length < k) : sakiaref05_Same.f k a a = some true := by
  unfold sakiaref05_Same.f
  rw [if_pos rfl]
  exact same_loop a hl a.length k 0 (by omega) (by omega)
theorem wrap_one {x : Int} (h0 : 0 ≤ x) (h1 : x ≤ 1000000) : wrap64 (x + 1) = x + 1 := by unfold wrap64; omega
theorem clock_loop {n : Int} {l : List S33} (h : rightB n l = true) (hl : l.length ≤ 1000000) {i : Nat} (hi : i < l.length) (d : Nat) : ∀ (k m : Nat), m + d = i + 1 → d < k →
    sakiaref13_Clock.l0 k l (tabT n l l.length) i ((List.range n.toNat).map fun t => cnt l t (seen n l i) m) m = some ((List.range n.toNat).map fun t => cnt l t (seen n l i) (i + 1)) := by
  induction d with
  | zero =>
    intro k m hm hk
    obtain ⟨k, rfl⟩ : ∃ m, k = m + 1 := ⟨k - 1, by omega⟩
    obtain rfl : m = i + 1 := by omega
    simp only [sakiaref13_Clock.l0]
    rw [if_neg (show ¬ ((i + 1 : Nat) : Int) ≤ (i : Int) by omega)]
  | succ d ih =>
    intro k m hm hk
    obtain ⟨k, rfl⟩ : ∃ m, k = m + 1 := ⟨k - 1, by omega⟩
    have hp := rightB_parts h
    have hp2 := hp.2.2 m (by omega)
    have ht : thr l m < n.toNat := by unfold thr; omega
    have et : (rd_T33 l (m : Int)).f0 = (thr l m : Int) := by unfold thr; omega
    have hb := cnt_bound l (thr l m) (seen n l i) m
    have hstep : seen n l i m = true → ((List.range n.toNat).map fun t => cnt l t (seen n l i) m).set (thr l m) (wrap64 (rd ((List.range n.toNat).map fun t => cnt l t (seen n l i) m) (thr l m : Int) + 1)) = (List.range n.toNat).map fun t => cnt l t (seen n l i) (m + 1) := fun hs => by
      rw [map_rd _ _ _ ht, wrap_one hb.1 (by omega), cnt_step _ _ _ _ hs ht]
    have hn := ih k (m + 1) (by omega) (by omega)
    simp only [sakiaref13_Clock.l0]
    rw [if_pos (show (m : Int) ≤ (i : Int) by omega), wrap_succ m (by omega), et, Int.toNat_natCast, List.length_map, List.length_range]
    by_cases e : m = i
    · have hs : seen n l i m = true := by unfold seen; rw [decide_eq_true e]; rfl
      rw [if_pos (show (m : Int) = (i : Int) by omega), if_pos (show (0 : Int) ≤ (m : Int) by omega), if_pos (show (m : Int) < (l.length : Int) by omega), if_pos (show (0 : Int) ≤ (thr l m : Int) by omega), if_pos (show (thr l m : Int) < (n.toNat : Int) by omega), hstep hs]
      exact hn
    · rw [if_neg (show ¬ (m : Int) = (i : Int) by omega), if_pos (show (0 : Int) ≤ (i : Int) by omega), tabT_len, if_pos (show (i : Int) < (l.length : Int) by omega), if_pos (show (0 : Int) ≤ (m : Int) by omega), tabT_rd n l _ i hi]
      rw [show (rowT n l i).length = l.length from rowU_len _ _ _ _, if_pos (show (m : Int) < (l.length : Int) by omega), rowT_rd n l i m (by omega)]
      have es : seen n l i m = tb n l i m := by unfold seen; rw [decide_eq_false e]; rfl
      cases hb2 : tb n l i m with
      | true =>
        rw [if_pos rfl, if_pos (show (m : Int) < (l.length : Int) by omega), if_pos (show (0 : Int) ≤ (thr l m : Int) by omega), if_pos (show (thr l m : Int) < (n.toNat : Int) by omega), hstep (es.trans hb2)]
        exact hn
      | false =>
        rw [if_neg (by decide), cnt_same _ _ _ _ (es.trans hb2)]
        exact hn
theorem clock_tot {n : Int} {l : List S33} (h : rightB n l = true) (hl : l.length ≤ 1000000) {i k : Nat} (hi : i < l.length) (hk : l.length + 10 < k) : sakiaref13_Clock.f k l (tabT n l l.length) n i = some (ck n l i) := by
  have hp := rightB_parts h
  unfold sakiaref13_Clock.f
  have hz : List.replicate n.toNat (0 : Int) = (List.range n.toNat).map fun t => cnt l t (seen n l i) 0 := (map_zero _ _ _ (fun _ _ => rfl)).symm
  rw [if_pos (by omega), if_pos (by omega), hz]
  have := clock_loop h hl hi (i + 1) k 0 (by omega) (by omega)
  rw [show ((0 : Nat) : Int) = 0 from rfl] at this
  rw [this]
  congr 1
  have hc := (inv_end h hl).cl _ (ck_in hi)
  apply List.ext_getElem
  · simp [hc.1]
  · intro j h1 h2
    simp only [List.getElem_map, List.getElem_range]
    rw [clock_cnt h hl hi (by rw [← hc.1]; exact h2), rd_get _ _ h2]

/-! Counts. -/
def isP (l : List S33) (p : Bool) (m : Nat) : Bool := plainK (rd_T33 l (m : Int)).f1 == p
def cxL (n : Int) (l : List S33) (m : Nat) : List Cx := (List.range n.toNat).map fun t => Pair.mkC (cnt l t (isP l false) m) (cnt l t (isP l true) m)
theorem cxL_rd (n : Int) (l : List S33) (m t : Nat) (ht : t < n.toNat) : rdOf (⟨0, 0⟩ : Cx) (cxL n l m) (t : Int) = Pair.mkC (cnt l t (isP l false) m) (cnt l t (isP l true) m) := by
  unfold rdOf cxL
  rw [Int.toNat_natCast, List.getD_eq_getElem?_getD, List.getElem?_map, List.getElem?_range ht]
  rfl
theorem cxL_set (n : Int) (l : List S33) (m : Nat) (a b : Int) (ha : a = cnt l (thr l m) (isP l false) (m + 1)) (hb : b = cnt l (thr l m) (isP l true) (m + 1)) : (cxL n l m).set (thr l m) (Pair.mkC a b) = cxL n l (m + 1) := by
  subst ha hb
  unfold cxL
  rw [map_set]
  apply List.map_congr_left
  intro u _
  by_cases e : u = thr l m
  · rw [if_pos e, e]
  · rw [if_neg e, cnt_succ, cnt_succ, if_neg (fun h => e h.1.symm), if_neg (fun h => e h.1.symm)]
theorem cnt_ok {x : Int} (h0 : 0 ≤ x) (h1 : x ≤ 1000000) : Pair.Cnt x := ⟨by omega, by omega⟩
theorem sum_two (a b c d : Int) (ha : Pair.Cnt a) (hb : Pair.Cnt b) (hc : Pair.Cnt c) (hd : Pair.Cnt d) (hac : Pair.Cnt (a + c)) (hbd : Pair.Cnt (b + d)) : pair_Sum.f [Pair.mkC a b, Pair.mkC c d] = some (Pair.mkC (a + c) (b + d)) := by
  have hs : Pair.sumP 0 0 [(a, b), (c, d)] = (a + c, b + d) := by
    simp only [Pair.sumP, Int.zero_add]
    rw [if_pos ⟨ha, hb⟩, if_pos ⟨hac, hbd⟩]
  unfold pair_Sum.f
  simp only [Pair.decs, Pair.dec_mk ha hb, Pair.dec_mk hc hd, Option.bind_some]
  rw [hs]
  unfold Pair.ofC
  rw [if_pos ⟨hac, hbd⟩]
theorem of_is (a b : Int) (ha : Pair.Cnt a) (hb : Pair.Cnt b) : pair_Of.f a b = some (Pair.mkC a b) := by
  unfold pair_Of.f Pair.ofC
  rw [if_pos ⟨ha, hb⟩]
theorem counts_loop {n : Int} {l : List S33} (h : rightB n l = true) (hl : l.length ≤ 100000) (d : Nat) : ∀ (k m : Nat), m + d = l.length → d < k → order_Counts.l0 k (cxL n l m) l l.length m = some (cxL n l l.length) := by
  have hp := rightB_parts h
  induction d with
  | zero =>
    intro k m hm hk
    obtain ⟨k, rfl⟩ : ∃ q, k = q + 1 := ⟨k - 1, by omega⟩
    obtain rfl : m = l.length := by omega
    simp only [order_Counts.l0]
    first | rw [if_neg (Int.lt_irrefl _)] | simp
  | succ d ih =>
    intro k m hm hk
    obtain ⟨k, rfl⟩ : ∃ q, k = q + 1 := ⟨k - 1, by omega⟩
    have hp2 := hp.2.2 m (by omega)
    have ht : thr l m < n.toNat := by unfold thr; omega
    have et : (rd_T33 l (m : Int)).f0 = (thr l m : Int) := by unfold thr; omega
    have b1 := cnt_bound l (thr l m) (isP l false) m
    have b2 := cnt_bound l (thr l m) (isP l true) m
    have one : Pair.Cnt 1 := ⟨by decide, by decide⟩
    have zero : Pair.Cnt 0 := ⟨by decide, by decide⟩
    have hn := ih k (m + 1) (by omega) (by omega)
    simp only [order_Counts.l0]
    rw [if_pos (show (m : Int) < (l.length : Int) by omega), if_pos (show (0 : Int) ≤ (m : Int) by omega), if_pos (show (m : Int) < (l.length : Int) by omega), of_is 1 0 one zero, of_is 0 1 zero one, plain_is, Option.bind_some, Option.bind_some, Option.bind_some, et, wrap_succ m (by omega), cxL_rd n l m _ ht, Int.toNat_natCast]
    rw [show (cxL n l m).length = n.toNat by simp [cxL]]
    rw [sum_two _ _ 0 1 (cnt_ok b1.1 (by omega)) (cnt_ok b2.1 (by omega)) zero one (cnt_ok (by omega) (by omega)) (cnt_ok (by omega) (by omega)), sum_two _ _ 1 0 (cnt_ok b1.1 (by omega)) (cnt_ok b2.1 (by omega)) one zero (cnt_ok (by omega) (by omega)) (cnt_ok (by omega) (by omega)), Option.bind_some, Option.bind_some]
    cases hk2 : plainK (rd_T33 l (m : Int)).f1 with
    | true =>
      rw [if_pos rfl, if_pos (show (0 : Int) ≤ (thr l m : Int) by omega), if_pos (show (thr l m : Int) < (n.toNat : Int) by omega), cxL_set n l m _ _ (by rw [cnt_succ, if_neg (fun h => by unfold isP at h; rw [hk2] at h; exact absurd h.2 (by decide))]; omega) (by rw [cnt_succ, if_pos ⟨rfl, by unfold isP; rw [hk2]; rfl⟩])]
      exact hn
    | false =>
      rw [if_neg (by decide), if_pos (show (0 : Int) ≤ (thr l m : Int) by omega), if_pos (show (thr l m : Int) < (n.toNat : Int) by omega), cxL_set n l m _ _ (by rw [cnt_succ, if_pos ⟨rfl, by unfold isP; rw [hk2]; rfl⟩]) (by rw [cnt_succ, if_neg (fun h => by unfold isP at h; rw [hk2] at h; exact absurd h.2 (by decide))]; omega)]
      exact hn
theorem counts_tot {n : Int} {l : List S33} (hl : l.length ≤ 100000) {k : Nat} (hk : l.length + 10 < k) : order_Counts.f k n l = some (if rightB n l = true then cxL n l l.length else []) := by
  unfold order_Counts.f
  rw [right_tot (by omega) (by omega), Option.bind_some]
  cases hr : rightB n l with
  | false => rw [if_neg (by decide), if_neg (by decide)]
  | true =>
    have hp := rightB_parts hr
    have hz : List.replicate n.toNat (⟨0, 0⟩ : Cx) = cxL n l 0 := (map_zero _ _ _ (fun _ _ => Pair.mk00)).symm
    rw [if_pos rfl, if_pos rfl, if_pos (by omega), if_pos (by omega), hz]
    exact counts_loop hr hl l.length k 0 (by omega) (by omega)
def intL (n : Int) (l : List S33) (p : Bool) (m : Nat) : List Int := (List.range n.toNat).map fun t => cnt l t (isP l p) m
theorem law_l1 {n : Int} {l : List S33} (hn : 1 ≤ n) (hn2 : n ≤ 10) (hl : l.length ≤ 150) (d : Nat) : ∀ (k m : Nat), (m : Int) + d = n → 110 + d ≤ k → sakialaw13_OrderClocks.l1 k n (cxL n l l.length) (intL n l false l.length) (intL n l true l.length) m = some true := by
  induction d with
  | zero =>
    intro k m hm hk
    obtain ⟨k, rfl⟩ : ∃ q, k = q + 1 := ⟨k - 1, by omega⟩
    simp only [sakialaw13_OrderClocks.l1]
    rw [if_neg (show ¬ (m : Int) < n by omega), live_tot k (by omega)]
    rfl
  | succ d ih =>
    intro k m hm hk
    obtain ⟨k, rfl⟩ : ∃ q, k = q + 1 := ⟨k - 1, by omega⟩
    have hmn : m < n.toNat := by omega
    have b1 := cnt_bound l m (isP l false) l.length
    have b2 := cnt_bound l m (isP l true) l.length
    have hnx := ih k (m + 1) (by omega) (by omega)
    simp only [sakialaw13_OrderClocks.l1]
    rw [show (cxL n l l.length).length = n.toNat by simp [cxL], show (intL n l false l.length).length = n.toNat by simp [intL], show (intL n l true l.length).length = n.toNat by simp [intL]]
    have d1 : pair_First.f (rdOf (⟨0, 0⟩ : Cx) (cxL n l l.length) (m : Int)) = some (cnt l m (isP l false) l.length) := by
      unfold pair_First.f
      rw [cxL_rd n l _ _ hmn, Pair.dec_mk (cnt_ok b1.1 (by omega)) (cnt_ok b2.1 (by omega))]
      rfl
    have d2 : pair_Second.f (rdOf (⟨0, 0⟩ : Cx) (cxL n l l.length) (m : Int)) = some (cnt l m (isP l true) l.length) := by
      unfold pair_Second.f
      rw [cxL_rd n l _ _ hmn, Pair.dec_mk (cnt_ok b1.1 (by omega)) (cnt_ok b2.1 (by omega))]
      rfl
    rw [if_pos (show (m : Int) < n by omega), if_pos (show (0 : Int) ≤ (m : Int) by omega), if_pos (show (m : Int) < (n.toNat : Int) by omega), d1, Option.bind_some, if_pos (show (m : Int) < (n.toNat : Int) by omega), if_pos (by unfold intL; rw [map_rd _ _ _ hmn]), d2, Option.bind_some, if_pos (show (m : Int) < (n.toNat : Int) by omega), if_pos (by unfold intL; rw [map_rd _ _ _ hmn]), wrap_succ m (by omega)]
    exact hnx
theorem law_l0 {n : Int} {l : List S33} (h : rightB n l = true) (hl : l.length ≤ 150) (d : Nat) : ∀ (k m : Nat), m + d = l.length → 400 + d ≤ k → sakialaw13_OrderClocks.l0 k n l (crun n.toNat l).O (cxL n l l.length) (tabT n l l.length) (intL n l false m) (intL n l true m) m = some true := by
  have hp := rightB_parts h
  induction d with
  | zero =>
    intro k m hm hk
    obtain ⟨k, rfl⟩ : ∃ q, k = q + 1 := ⟨k - 1, by omega⟩
    obtain rfl : m = l.length := by omega
    simp only [sakialaw13_OrderClocks.l0]
    have := law_l1 (n := n) (l := l) hp.1 hp.2.1 hl n.toNat k 0 (by omega) (by omega)
    rw [show ((0 : Nat) : Int) = 0 from rfl] at this
    first | (rw [if_neg (Int.lt_irrefl _)]; exact this) | (simp; exact this)
  | succ d ih =>
    intro k m hm hk
    obtain ⟨k, rfl⟩ : ∃ q, k = q + 1 := ⟨k - 1, by omega⟩
    have hp2 := hp.2.2 m (by omega)
    have ht : thr l m < n.toNat := by unfold thr; omega
    have et : (rd_T33 l (m : Int)).f0 = (thr l m : Int) := by unfold thr; omega
    have hc := (inv_end h (by omega)).cl _ (ck_in (show m < l.length by omega))
    have hnx := ih k (m + 1) (by omega) (by omega)
    have b := fun p => cnt_bound l (thr l m) (isP l p) m
    simp only [sakialaw13_OrderClocks.l0]
    rw [crun_O, if_pos (show (m : Int) < (l.length : Int) by omega), if_pos (show (0 : Int) ≤ (m : Int) by omega), if_pos (show (m : Int) < (l.length : Int) by omega), clock_tot h (by omega) (by omega) (by omega), Option.bind_some, rd_L3_ck, same_tot _ (by rw [hc.1]; omega) (by rw [hc.1]; omega), Option.bind_some, if_pos rfl, plain_is2, Option.bind_some, et, wrap_succ m (by omega), Int.toNat_natCast]
    rw [show (intL n l false m).length = n.toNat by simp [intL], show (intL n l true m).length = n.toNat by simp [intL]]
    have hset : ∀ p, isP l p m = true → (intL n l p m).set (thr l m) (wrap64 (rd (intL n l p m) (thr l m : Int) + 1)) = intL n l p (m + 1) := fun p hs => by
      unfold intL
      rw [map_rd _ _ _ ht, wrap_one (b p).1 (by have := (b p).2; omega), cnt_step _ _ _ _ hs ht]
    have hsame : ∀ p, isP l p m = false → intL n l p m = intL n l p (m + 1) := fun p hs => cnt_same _ _ _ _ hs
    cases hk2 : plainK (rd_T33 l (m : Int)).f1 with
    | true =>
      rw [if_pos rfl, if_pos (show (0 : Int) ≤ (thr l m : Int) by omega), if_pos (show (thr l m : Int) < (n.toNat : Int) by omega), hset true (by unfold isP; rw [hk2]; rfl), hsame false (by unfold isP; rw [hk2]; rfl)]
      exact hnx
    | false =>
      rw [if_neg (by decide), if_pos (show (0 : Int) ≤ (thr l m : Int) by omega), if_pos (show (thr l m : Int) < (n.toNat : Int) by omega), hset false (by unfold isP; rw [hk2]; rfl), hsame true (by unfold isP; rw [hk2]; rfl)]
      exact hnx
theorem OrderClocks : sakialaw13_OrderClocks.Pure := by
  intro n l wn hmax hsz hwf
  have hw : ∀ x ∈ l, x.f2 < 9223372036854775808 := by
    intro x hx
    have h := (hwf x hx).2.2.1
    have e2 : IntKind.i64.max = 9223372036854775807 := by decide
    simp only [Lit.wf, e2, Bool.and_eq_true, decide_eq_true_eq] at h
    omega
  refine ⟨100000, ?_⟩
  unfold sakialaw13_OrderClocks.f
  by_cases hl : (l.length : Int) > 150
  · rw [if_pos hl, live_tot 100000 (by omega)]; rfl
  rw [if_neg hl, counts_tot (by omega) (by omega), right_tot2 (by omega) (by omega)]
  cases hr : rightB n l with
  | false =>
    rw [clocks_not hr (by omega) (by omega), Behind_tot (by omega) (by omega) (by omega) hw, live_tot 100000 (by omega)]
    have hb : behindB n l 1 0 = false := by unfold behindB; rw [hr]; rfl
    simp [hb]
  | true =>
    have hp := rightB_parts hr
    rw [clocks_tot hr (by omega) (by omega) (by omega) hw, table_tot hr (by omega) (by omega)]
    simp only [Option.bind_some, if_true]
    have z : ∀ p, List.replicate n.toNat (0 : Int) = intL n l p 0 := fun p => (map_zero _ _ _ (fun _ _ => rfl)).symm
    rw [crun_O, if_pos rfl, show (cxL n l l.length).length = n.toNat by simp [cxL], if_pos (by omega), if_pos (by omega), if_pos (by omega)]
    have := law_l0 hr (show l.length ≤ 150 by omega) l.length 100000 0 (by omega) (by omega)
    rw [← z false, ← z true, show ((0 : Nat) : Int) = 0 from rfl] at this
    exact this


end Go.Proofs.Yteahmcfinijmdaa.Pure
