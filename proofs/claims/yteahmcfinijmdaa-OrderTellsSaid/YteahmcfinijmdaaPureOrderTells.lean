/- It is proved that the law OrderTells answers true for every input: which lists are right, from which access each one reads, and which cells are touched. Conditions: none. -/
import Derived.Test.YteahmcfinijmdaaQOrderTellsx17
namespace Go.Proofs.Yteahmcfinijmdaa.Pure
open Go Go.RowKit Go.Proofs.Yteahmcfinijmdaa.QOrderTells Go.Proofs.YteahmcfinijmdaaW.PrintWords Go.Proofs.YteahmcfinijmdaaW.PrintLast Go.Proofs.YteahmcfinijmdaaW.PrintMore
set_option linter.unusedVariables false
set_option linter.unusedSimpArgs false

/-! What the clocks tell (no program in sight). -/
theorem rd_get2 (c : List Int) (u : Nat) : rd c (u : Int) = (c[u]?).getD 0 := by simp [rd, List.getD_eq_getElem?_getD]
theorem rd_set (c : List Int) (i u : Nat) (v : Int) (h : i < c.length) : rd (c.set i v) (u : Int) = if u = i then v else rd c (u : Int) := by
  rw [rd_get2, rd_get2, List.getElem?_set]
  by_cases e : i = u
  · subst e; simp [h]
  · rw [if_neg e, if_neg (fun e2 => e e2.symm)]
theorem rd_rep (n u : Nat) : rd (List.replicate n 0) (u : Int) = 0 := by
  rw [rd_get2, List.getElem?_replicate]
  split <;> rfl
theorem getD_set2 (K : List (List Int)) (t j : Nat) (c : List Int) (ht : t < K.length) : (K.set t c).getD j [] = if j = t then c else K.getD j [] := by
  simp only [List.getD_eq_getElem?_getD]
  rw [List.getElem?_set]
  by_cases e : t = j
  · subst e; simp [ht]
  · rw [if_neg e, if_neg (fun e2 => e e2.symm)]
/-- a clock of n threads, of at most m -/
def Cl (n m : Nat) (c : List Int) : Prop := c.length = n ∧ ∀ u : Nat, u < n → 0 ≤ rd c (u : Int) ∧ rd c (u : Int) ≤ (m : Int)
theorem Cl.right {n m : Nat} {c : List Int} (h : Cl n m c) (hn : 1 ≤ n) (hn2 : n ≤ 10) (hm : m ≤ 1099511627776) : right c = true :=
  right_mk (by rw [h.1]; omega) (by rw [h.1]; omega) (fun i hi => by have := h.2 i (by rw [← h.1]; exact hi); omega)
def InS (n : Nat) (s : CS) (c : List Int) : Prop := (∃ t, t < n ∧ c = s.K.getD t []) ∨ (∃ x, s.M x = some c) ∨ c ∈ s.O
structure Inv (n : Nat) (th : Nat → Nat) (i : Nat) (s : CS) : Prop where
  K : s.K.length = n
  O : s.O.length = i
  cl : ∀ c, InS n s c → Cl n i c
  own : ∀ c, InS n s c → ∀ u : Nat, u < n → rd c (u : Int) ≤ rd (s.K.getD u []) (u : Int)
  last : ∀ j, j < i → ∀ u : Nat, u < n → rd (s.O.getD j []) (u : Int) ≤ rd (s.K.getD (th j) []) (u : Int)
  clo : ∀ c, InS n s c → ∀ j, j < i → rd (s.O.getD j []) (th j : Int) ≤ rd c (th j : Int) → ∀ u : Nat, u < n → rd (s.O.getD j []) (u : Int) ≤ rd c (u : Int)
theorem Inv.start (n : Nat) (th : Nat → Nat) : Inv n th 0 (cs0 n) := by
  have hk : ∀ c, InS n (cs0 n) c → c = List.replicate n 0 := by
    intro c h
    rcases h with ⟨t, ht, e⟩ | ⟨x, e⟩ | e
    · rw [e]; simp [cs0, List.getD_eq_getElem?_getD, List.getElem?_replicate, ht]
    · simp [cs0] at e
    · simp [cs0] at e
  refine ⟨by simp [cs0], by simp [cs0], fun c h => ?_, fun c h u hu => ?_, fun j hj => absurd hj (by omega), fun c h j hj => absurd hj (by omega)⟩
  · rw [hk c h]
    exact ⟨by simp, fun u _ => by rw [rd_rep]; simp⟩
  · rw [hk c h]
    have : (cs0 n).K.getD u [] = List.replicate n 0 := by simp [cs0, List.getD_eq_getElem?_getD, List.getElem?_replicate, hu]
    rw [this]
    exact Int.le_refl _
/-- what an access joins with: its cell's clock, or its thread's own -/
def mixC (s : CS) (a : S33) (t : Nat) : List Int := if (s.M a.f2).isSome && (atomB a.f1 && rdB a.f1) then (s.M a.f2).getD [] else s.K.getD t []
theorem mixC_in {n : Nat} {s : CS} {a : S33} {t : Nat} (ht : t < n) : InS n s (mixC s a t) := by
  unfold mixC
  split
  · rename_i h
    simp only [Bool.and_eq_true] at h
    obtain ⟨c, hc⟩ := Option.isSome_iff_exists.1 h.1
    rw [hc]
    exact .inr (.inl ⟨_, hc⟩)
  · exact .inl ⟨t, ht, rfl⟩
theorem tick_rd {n i t : Nat} {c : List Int} (h : Cl n i c) (hn : 1 ≤ n) (hn2 : n ≤ 10) (hi : i < 1099511627776) (ht : t < n) :
    (tick c (t : Int)).length = n ∧ ∀ u : Nat, u < n → rd (tick c (t : Int)) (u : Int) = rd c (u : Int) + if u = t then 1 else 0 := by
  have hr := h.right hn hn2 (by omega)
  have h2 := h.2 t ht
  unfold tick
  rw [if_pos ⟨hr, by omega, by rw [h.1]; omega, by omega⟩]
  refine ⟨by rw [List.length_set]; exact h.1, fun u hu => ?_⟩
  rw [Int.toNat_natCast, rd_set _ _ _ _ (by rw [h.1]; exact ht)]
  by_cases e : u = t
  · subst e; simp
  · rw [if_neg e, if_neg e]; omega
theorem clk1_rd {n i t : Nat} {th : Nat → Nat} {s : CS} {a : S33} (h : Inv n th i s) (hn : 1 ≤ n) (hn2 : n ≤ 10) (hi : i < 1099511627776) (ht : t < n) (ha : a.f0 = (t : Int)) :
    (clk1 s a).length = n ∧ ∀ u : Nat, u < n → rd (clk1 s a) (u : Int) = max (rd (s.K.getD t []) (u : Int) + if u = t then 1 else 0) (rd (mixC s a t) (u : Int)) := by
  have hK := h.cl _ (.inl ⟨t, ht, rfl⟩)
  obtain ⟨t1, t2⟩ := tick_rd hK hn hn2 hi ht
  unfold clk1 mixC
  rw [ha, Int.toNat_natCast]
  split
  · rename_i hc
    simp only [Bool.and_eq_true] at hc
    obtain ⟨m, hm⟩ := Option.isSome_iff_exists.1 hc.1
    rw [hm]
    simp only [Option.getD_some]
    have hM := h.cl m (.inr (.inl ⟨_, hm⟩))
    have tC : Cl n (i + 1) (tick (s.K.getD t []) (t : Int)) := ⟨t1, fun u hu => by have := hK.2 u hu; rw [t2 u hu]; split <;> omega⟩
    have hb : both (tick (s.K.getD t []) (t : Int)) m = true := both_mk (tC.right hn hn2 (by omega)) (hM.right hn hn2 (by omega)) (by rw [t1, hM.1])
    unfold join
    rw [if_pos hb]
    refine ⟨by rw [joinZ_len (by rw [t1, hM.1]), t1], fun u hu => ?_⟩
    rw [joinZ_rd (by rw [t1, hM.1]) u (by rw [t1]; exact hu), t2 u hu]
    unfold mx
    split <;> omega
  · refine ⟨t1, fun u hu => ?_⟩
    rw [t2 u hu]
    split <;> omega
theorem Inv.step {n i t : Nat} {th : Nat → Nat} {s : CS} {a : S33} (h : Inv n th i s) (hn : 1 ≤ n) (hn2 : n ≤ 10) (hi : i < 1099511627776) (ht : t < n) (ha : a.f0 = (t : Int)) (hth : th i = t) (hall : ∀ j, j < i → th j < n) : Inv n th (i + 1) (cstep s a) := by
  obtain ⟨l1, l2⟩ := clk1_rd h hn hn2 hi ht ha
  have hm := mixC_in (s := s) (a := a) ht
  have hmo := h.own _ hm
  have hmc := h.clo _ hm
  have hml := h.cl _ hm
  have hKi : InS n s (s.K.getD t []) := .inl ⟨t, ht, rfl⟩
  have hKo := h.own _ hKi
  have hKc := h.clo _ hKi
  have hKl := h.cl _ hKi
  have hs : cstep s a = ⟨s.K.set t (clk1 s a), clkM s a (clk1 s a), s.O ++ [clk1 s a]⟩ := by unfold cstep; rw [ha, Int.toNat_natCast]
  rw [hs]
  clear hs
  generalize hc : clk1 s a = c at *
  generalize mixC s a t = m at *
  have hin : ∀ x, InS n ⟨s.K.set t c, clkM s a c, s.O ++ [c]⟩ x → x = c ∨ InS n s x := by
    intro x hx
    rcases hx with ⟨u, hu, e⟩ | ⟨y, e⟩ | e
    · simp only at e
      rw [getD_set2 _ _ _ _ (by rw [h.K]; exact ht)] at e
      by_cases e2 : u = t
      · rw [if_pos e2] at e; exact .inl e
      · rw [if_neg e2] at e; exact .inr (.inl ⟨u, hu, e⟩)
    · simp only [clkM] at e
      split at e
      · simp only at e
        by_cases e2 : y = a.f2
        · rw [if_pos e2] at e; exact .inl (Option.some.inj e).symm
        · rw [if_neg e2] at e; exact .inr (.inr (.inl ⟨y, e⟩))
      · exact .inr (.inr (.inl ⟨y, e⟩))
    · rcases List.mem_append.1 e with e | e
      · exact .inr (.inr (.inr e))
      · exact .inl (by simpa using e)
  have hct : rd c (t : Int) = rd (s.K.getD t []) (t : Int) + 1 := by
    have := l2 t ht
    have := hmo t ht
    rw [if_pos rfl] at *
    omega
  have hcK : ∀ u : Nat, u < n → rd (s.K.getD t []) (u : Int) ≤ rd c (u : Int) := fun u hu => by have := l2 u hu; split at this <;> omega
  have hcm : ∀ u : Nat, u < n → rd m (u : Int) ≤ rd c (u : Int) := fun u hu => by have := l2 u hu; omega
  have hO : ∀ j, j < i → (s.O ++ [c]).getD j [] = s.O.getD j [] := fun j hj => by
    simp only [List.getD_eq_getElem?_getD]
    rw [List.getElem?_append_left (by rw [h.O]; exact hj)]
  have hOi : (s.O ++ [c]).getD i [] = c := by
    simp only [List.getD_eq_getElem?_getD]
    rw [List.getElem?_append_right (by rw [h.O]; omega), h.O]
    simp
  have hKn : ∀ u, (s.K.set t c).getD u [] = if u = t then c else s.K.getD u [] := fun u => getD_set2 _ _ _ _ (by rw [h.K]; exact ht)
  refine ⟨by simpa using h.K, by simp [h.O], fun x hx => ?_, fun x hx u hu => ?_, fun j hj u hu => ?_, fun x hx j hj hle u hu => ?_⟩
  · rcases hin x hx with rfl | hx
    · refine ⟨l1, fun u hu => ?_⟩
      have h1 := l2 u hu
      have h2 := hKl.2 u hu
      have h3 := hml.2 u hu
      split at h1 <;> omega
    · have := h.cl x hx
      exact ⟨this.1, fun u hu => by have := this.2 u hu; omega⟩
  · simp only [hKn]
    by_cases e : u = t
    · rw [if_pos e]
      subst e
      rcases hin x hx with rfl | hx
      · exact Int.le_refl _
      · have := h.own x hx u hu; omega
    · rw [if_neg e]
      rcases hin x hx with rfl | hx
      · have h1 := l2 u hu
        have h2 := hmo u hu
        have h3 := hKo u hu
        rw [if_neg e] at h1
        omega
      · exact h.own x hx u hu
  · simp only [hKn]
    by_cases e : j < i
    · rw [hO j e]
      have h1 := h.last j e u hu
      by_cases e2 : th j = t
      · rw [if_pos e2]
        have h2 := hcK u hu
        rw [e2] at h1
        omega
      · rw [if_neg e2]; exact h1
    · obtain rfl : j = i := by omega
      rw [hOi, if_pos hth]
      exact Int.le_refl _
  · simp only at hle ⊢
    by_cases e : j < i
    · rw [hO j e] at hle ⊢
      rcases hin x hx with rfl | hx
      · by_cases e2 : th j = t
        · have h1 := h.last j e u hu
          have h2 := hcK u hu
          rw [e2] at h1
          omega
        · have h1 := l2 (th j) (hall j e)
          rw [if_neg e2] at h1
          have h2 := hcK u hu
          have h3 := hcm u hu
          by_cases e3 : rd (s.O.getD j []) (th j : Int) ≤ rd m (th j : Int)
          · have := hmc j e e3 u hu; omega
          · have := hKc j e (by omega) u hu; omega
      · exact h.clo x hx j e hle u hu
    · obtain rfl : j = i := by omega
      rw [hOi] at hle ⊢
      rcases hin x hx with rfl | hx
      · exact Int.le_refl _
      · rw [hth] at hle
        have := h.own x hx t ht
        omega
theorem T33_drop (l : List S33) (i : Nat) (h : i < l.length) : l.drop i = rd_T33 l (i : Int) :: l.drop (i + 1) := by
  rw [List.drop_eq_getElem_cons h]
  simp [rd_T33, List.getD_eq_getElem?_getD, h]
theorem T33_get (l : List S33) (i : Nat) (h : i < l.length) : l[i] = rd_T33 l (i : Int) := by
  simp [rd_T33, List.getD_eq_getElem?_getD, h]
def okA (n : Int) (a : S33) : Bool := decide (0 ≤ a.f0) && decide (a.f0 < n) && decide (1 ≤ a.f1) && decide (a.f1 ≤ 7) && decide (0 ≤ a.f2)
def rightB (n : Int) (l : List S33) : Bool := decide (1 ≤ n) && decide (n ≤ 10) && l.all (okA n)
theorem right_tot_loop {n : Int} {l : List S33} (hl : l.length < 9223372036854775807) (d : Nat) : ∀ (k i : Nat), i + d = l.length → d < k → order_Right.l0 k n l l.length i = some ((l.drop i).all (okA n)) := by
  induction d with
  | zero =>
    intro k i hi hk
    obtain ⟨k, rfl⟩ : ∃ m, k = m + 1 := ⟨k - 1, by omega⟩
    simp only [order_Right.l0]
    rw [if_neg (by omega), List.drop_of_length_le (by omega)]
    rfl
  | succ d ih =>
    intro k i hi hk
    obtain ⟨k, rfl⟩ : ∃ m, k = m + 1 := ⟨k - 1, by omega⟩
    simp only [order_Right.l0]
    rw [if_pos (by omega), if_pos (by omega), if_pos (by omega), T33_drop l i (by omega), List.all_cons]
    have hR := ih k (i + 1) (by omega) (by omega)
    generalize (List.drop (i + 1) l).all (okA n) = R at *
    generalize rd_T33 l (i : Int) = a
    unfold okA
    by_cases c1 : a.f0 < 0
    · rw [if_pos c1, decide_eq_false (show ¬ 0 ≤ a.f0 by omega)]; simp
    rw [if_neg c1, decide_eq_true (show 0 ≤ a.f0 by omega)]
    by_cases c2 : a.f0 ≥ n
    · rw [if_pos c2, decide_eq_false (show ¬ a.f0 < n by omega)]; simp
    rw [if_neg c2, decide_eq_true (show a.f0 < n by omega)]
    by_cases c3 : a.f1 < 1
    · rw [if_pos c3, decide_eq_false (show ¬ 1 ≤ a.f1 by omega)]; simp
    rw [if_neg c3, decide_eq_true (show 1 ≤ a.f1 by omega)]
    by_cases c4 : a.f1 > 7
    · rw [if_pos c4, decide_eq_false (show ¬ a.f1 ≤ 7 by omega)]; simp
    rw [if_neg c4, decide_eq_true (show a.f1 ≤ 7 by omega)]
    by_cases c5 : a.f2 < 0
    · rw [if_pos c5, decide_eq_false (show ¬ 0 ≤ a.f2 by omega)]; simp
    rw [if_neg c5, decide_eq_true (show 0 ≤ a.f2 by omega), wrap_succ i (by omega)]
    rw [hR]
    simp
theorem right_tot {n : Int} {l : List S33} {k : Nat} (hl : l.length < 9223372036854775807) (hk : l.length + 1 < k) : order_Right.f k n l = some (rightB n l) := by
  obtain ⟨k, rfl⟩ : ∃ m, k = m + 1 := ⟨k - 1, by omega⟩
  unfold order_Right.f rightB
  by_cases h1 : n < 1
  · rw [if_pos h1, decide_eq_false (show ¬ 1 ≤ n by omega)]
    simp [order_Right.j0]
  · rw [if_neg h1, decide_eq_true (show 1 ≤ n by omega)]
    simp only [order_Right.j0]
    by_cases h2 : n > 10
    · rw [decide_eq_true h2, if_pos rfl, decide_eq_false (show ¬ n ≤ 10 by omega)]; simp
    · rw [decide_eq_false h2, if_neg (by decide), decide_eq_true (show n ≤ 10 by omega)]
      exact right_tot_loop hl l.length k 0 (by omega) (by omega)
theorem rightB_parts {n : Int} {l : List S33} (h : rightB n l = true) : 1 ≤ n ∧ n ≤ 10 ∧ ∀ j : Nat, j < l.length → 0 ≤ (rd_T33 l (j : Int)).f0 ∧ (rd_T33 l (j : Int)).f0 < n ∧ 1 ≤ (rd_T33 l (j : Int)).f1 ∧ (rd_T33 l (j : Int)).f1 ≤ 7 ∧ 0 ≤ (rd_T33 l (j : Int)).f2 := by
  simp only [rightB, Bool.and_eq_true, decide_eq_true_eq, List.all_eq_true] at h
  refine ⟨h.1.1, h.1.2, fun j hj => ?_⟩
  have := h.2 _ (List.getElem_mem hj)
  rw [T33_get l j hj] at this
  simp only [okA, Bool.and_eq_true, decide_eq_true_eq] at this
  omega
/-- an access's thread -/
def thr (l : List S33) (j : Nat) : Nat := (rd_T33 l (j : Int)).f0.toNat
theorem inv_run {n : Int} {l : List S33} (h : rightB n l = true) (hl : l.length ≤ 1000000) : ∀ i, i ≤ l.length → Inv n.toNat (thr l) i (crun n.toNat (l.take i)) := by
  obtain ⟨h1, h2, h3⟩ := rightB_parts h
  intro i
  induction i with
  | zero => intro _; exact Inv.start _ _
  | succ i ih =>
    intro hi
    rw [crun_succ n.toNat l i (by omega), T33_get l i (by omega)]
    have h4 := h3 i (by omega)
    refine (ih (by omega)).step (t := thr l i) (by omega) (by omega) (by omega) ?_ ?_ rfl (fun j hj => ?_)
    · unfold thr; omega
    · unfold thr; omega
    · have := h3 j (by omega)
      unfold thr; omega
theorem crun_pre (n : Nat) (l : List S33) (i : Nat) (hi : i ≤ l.length) : (crun n l).O.take i = (crun n (l.take i)).O := by
  have h : ∀ (m : List S33) (s : CS), ∃ r, (m.foldl cstep s).O = s.O ++ r := by
    intro m
    induction m with
    | nil => intro s; exact ⟨[], by simp⟩
    | cons a m ih =>
      intro s
      obtain ⟨r, hr⟩ := ih (cstep s a)
      exact ⟨clk1 s a :: r, by rw [List.foldl_cons, hr]; simp [cstep]⟩
  obtain ⟨r, hr⟩ := h (l.drop i) (crun n (l.take i))
  have e : crun n l = (l.drop i).foldl cstep (crun n (l.take i)) := by
    unfold crun
    rw [← List.foldl_append, List.take_append_drop]
  rw [e, hr, List.take_append_of_le_length (by rw [crun_O]; simp; omega), List.take_of_length_le (by rw [crun_O]; simp; omega)]
/-- access i's clock -/
def ck (n : Int) (l : List S33) (i : Nat) : List Int := (crun n.toNat l).O.getD i []
theorem ck_pre {n : Int} {l : List S33} {i j : Nat} (hi : i ≤ l.length) (hj : j < i) : (crun n.toNat (l.take i)).O.getD j [] = ck n l j := by
  unfold ck
  rw [← crun_pre n.toNat l i hi]
  simp only [List.getD_eq_getElem?_getD]
  rw [List.getElem?_take, if_pos hj]
theorem ck_new {n : Int} {l : List S33} {i : Nat} (hi : i < l.length) : ck n l i = clk1 (crun n.toNat (l.take i)) (rd_T33 l (i : Int)) := by
  rw [← ck_pre (i := i + 1) (by omega) (by omega), crun_succ n.toNat l i hi, T33_get l i hi]
  unfold cstep
  simp only [List.getD_eq_getElem?_getD]
  have hO := crun_O n.toNat (l.take i)
  rw [List.getElem?_append_right (by rw [hO]; simp; omega), hO]
  simp [List.length_take, Nat.min_eq_left (Nat.le_of_lt hi)]
theorem ck_in {n : Int} {l : List S33} {i : Nat} (hi : i < l.length) : InS n.toNat (crun n.toNat l) (ck n l i) := by
  refine .inr (.inr ?_)
  unfold ck
  rw [List.getD_eq_getElem?_getD, List.getElem?_eq_getElem (by rw [crun_O]; exact hi)]
  exact List.getElem_mem _
theorem inv_end {n : Int} {l : List S33} (h : rightB n l = true) (hl : l.length ≤ 1000000) : Inv n.toNat (thr l) l.length (crun n.toNat l) := by
  have := inv_run h hl l.length (Nat.le_refl _)
  rwa [List.take_length] at this
/-- access j's count is known to access i -/
def kn (n : Int) (l : List S33) (i j : Nat) : Bool := decide (rd (ck n l j) (thr l j : Int) ≤ rd (ck n l i) (thr l j : Int))
theorem kn_trans {n : Int} {l : List S33} (h : rightB n l = true) (hl : l.length ≤ 1000000) {i j k : Nat} (hi : i < l.length) (hj : j < l.length) (hk : k < l.length) (h1 : kn n l i j = true) (h2 : kn n l j k = true) : kn n l i k = true := by
  have hI := inv_end h hl
  simp only [kn, decide_eq_true_eq] at *
  have := hI.clo _ (ck_in hi) j hj h1 (thr l k) (by obtain ⟨p1, p2, p3⟩ := rightB_parts h; have := p3 k hk; unfold thr; omega)
  have e : (crun n.toNat l).O.getD j [] = ck n l j := rfl
  rw [e] at this
  omega
theorem rd_L3_ck {n : Int} {l : List S33} (i : Nat) : rd_L3 (crun n.toNat l).O (i : Int) = ck n l i := rfl
theorem knows_tot {n : Int} {l : List S33} (h : rightB n l = true) (hl : l.length ≤ 1000000) {i j k : Nat} (hk : 20 ≤ k) (hi : i < l.length) (hj : j < l.length) : tick_Knows.f k (ck n l i) (rd_T33 l (j : Int)).f0 (rd (ck n l j) (rd_T33 l (j : Int)).f0) = some (kn n l i j) := by
  obtain ⟨p1, p2, p3⟩ := rightB_parts h
  have h4 := p3 j hj
  have hc := (inv_end h hl).cl _ (ck_in hi)
  have e : (rd_T33 l (j : Int)).f0 = (thr l j : Int) := by unfold thr; omega
  rw [tknows _ _ _ k hk, hc.right (by omega) (by omega) (by omega), e, decide_eq_true (show (0 : Int) ≤ (thr l j : Int) by omega), hc.1, decide_eq_true (show (thr l j : Int) < (n.toNat : Int) by omega)]
  rfl
theorem behind_tot {n : Int} {l : List S33} (h : rightB n l = true) (hl : l.length ≤ 1000000) {i j k : Nat} (hk : 20 ≤ k) (hi : i < l.length) (hj : j < l.length) : order_behind.f k l (crun n.toNat l).O (i : Int) (j : Int) = some (kn n l i j) := by
  obtain ⟨p1, p2, p3⟩ := rightB_parts h
  have h4 := p3 j hj
  have hc := (inv_end h hl).cl _ (ck_in hj)
  unfold order_behind.f
  rw [crun_O, if_pos (by omega), if_pos (by omega), if_pos (by omega), if_pos (by omega), if_pos (by omega), if_pos (by omega), rd_L3_ck, rd_L3_ck, if_pos (by rw [hc.1]; omega), knows_tot h hl hk hi hj]
  rfl
theorem clocks_tot {n : Int} {l : List S33} {k : Nat} (h : rightB n l = true) (hl : l.length ≤ 1000000) (hk : 20 ≤ k) (hk2 : l.length + 1 < k) (hw : ∀ x ∈ l, x.f2 < 9223372036854775808) : order_Clocks.f k n l = some (crun n.toNat l).O := by
  unfold order_Clocks.f
  rw [right_tot (by omega) hk2, h, Option.bind_some, if_pos rfl, if_pos hk, if_pos (by omega), if_pos (by omega), if_pos (by rw [List.all_eq_true]; intro x hx; exact decide_eq_true (hw x hx))]
theorem clocks_not {n : Int} {l : List S33} {k : Nat} (h : rightB n l = false) (hl : l.length ≤ 1000000) (hk2 : l.length + 1 < k) : order_Clocks.f k n l = some [] := by
  unfold order_Clocks.f
  rw [right_tot (by omega) hk2, h, Option.bind_some, if_neg (by decide)]

/-! The reference's functions, told. -/
theorem right_tot2_loop {n : Int} {l : List S33} (hl : l.length < 9223372036854775807) (d : Nat) : ∀ (k i : Nat) (ok : Bool), i + d = l.length → d < k → sakiaref13_Right.l0 k n l ok i = some (ok && (l.drop i).all (okA n)) := by
  induction d with
  | zero =>
    intro k i ok hi hk
    obtain ⟨k, rfl⟩ : ∃ m, k = m + 1 := ⟨k - 1, by omega⟩
    simp only [sakiaref13_Right.l0]
    rw [if_neg (show ¬ (i : Int) < (l.length : Int) by omega), List.drop_of_length_le (by omega)]
    simp
  | succ d ih =>
    intro k i ok hi hk
    obtain ⟨k, rfl⟩ : ∃ m, k = m + 1 := ⟨k - 1, by omega⟩
    simp only [sakiaref13_Right.l0]
    rw [if_pos (show (i : Int) < (l.length : Int) by omega), if_pos (show (0 : Int) ≤ (i : Int) by omega), T33_drop l i (by omega), List.all_cons, wrap_succ i (by omega)]
    have hR := fun o => ih k (i + 1) o (by omega) (by omega)
    generalize (List.drop (i + 1) l).all (okA n) = R at *
    generalize rd_T33 l (i : Int) = a
    unfold okA
    rw [hR, hR]
    cases ok with
    | false => simp
    | true =>
      rw [if_pos rfl]
      by_cases c1 : a.f0 ≥ 0
      · rw [if_pos c1, decide_eq_true (show 0 ≤ a.f0 by omega)]
        by_cases c2 : a.f0 < n
        · rw [if_pos c2, decide_eq_true c2]
          by_cases c3 : a.f1 > 0
          · rw [if_pos c3, decide_eq_true (show 1 ≤ a.f1 by omega)]
            by_cases c4 : a.f1 < 8
            · rw [if_pos c4, decide_eq_true (show a.f1 ≤ 7 by omega)]
              simp
            · rw [if_neg c4, decide_eq_false (show ¬ a.f1 ≤ 7 by omega)]; simp
          · rw [if_neg c3, decide_eq_false (show ¬ 1 ≤ a.f1 by omega)]; simp
        · rw [if_neg c2, decide_eq_false c2]; simp
      · rw [if_neg c1, decide_eq_false (show ¬ 0 ≤ a.f0 by omega)]; simp
theorem right_tot2 {n : Int} {l : List S33} {k : Nat} (hl : l.length < 9223372036854775807) (hk : l.length + 1 < k) : sakiaref13_Right.f k n l = some (rightB n l) := by
  obtain ⟨k, rfl⟩ : ∃ m, k = m + 1 := ⟨k - 1, by omega⟩
  have h := fun o => right_tot2_loop (n := n) hl l.length k 0 o (by omega) (by omega)
  unfold sakiaref13_Right.f rightB
  simp only [sakiaref13_Right.j0]
  rw [show ((0 : Nat) : Int) = 0 from rfl] at h
  rw [h, h, List.drop_zero]
  by_cases h1 : n > 0
  · rw [if_pos h1, decide_eq_true (show 1 ≤ n by omega), Bool.true_and]
    congr 2
    rw [decide_eq_decide]
    omega
  · rw [if_neg h1, decide_eq_false (show ¬ 1 ≤ n by omega)]; simp

theorem live_tot : ∀ k, 100 ≤ k → sakialaw13_live.f k = some true := by
  intro k hk
  have h : sakialaw13_live.f 100 = some true := by kernel_rfl
  obtain ⟨d, rfl⟩ : ∃ d, k = 100 + d := ⟨k - 100, by omega⟩
  clear hk
  induction d with
  | zero => exact h
  | succ d ih => exact sakialaw13_live.mono _ _ ih

/-! Cells, sources: what is told is what the document says. -/
theorem keeps_dec (d : Array Int) (m : Nat) : Lib.keeps d m = decide (m = 0 ∨ d[m]! ≠ d[m - 1]!) := rfl
theorem upTo_mem (d : Array Int) : ∀ m, ∀ x, x ∈ Lib.compactUpTo d m ↔ ∃ j, j < m ∧ d[j]! = x := by
  intro m
  induction m with
  | zero => intro x; simp [Lib.compactUpTo]
  | succ m ih =>
    intro x
    rw [Lib.compactUpTo_succ, List.mem_append, ih]
    by_cases hk : Lib.keeps d m = true
    · rw [if_pos hk, List.mem_singleton]
      constructor
      · rintro (⟨j, hj, e⟩ | e)
        · exact ⟨j, by omega, e⟩
        · exact ⟨m, by omega, e.symm⟩
      · rintro ⟨j, hj, e⟩
        by_cases e2 : j = m
        · subst e2; exact .inr e.symm
        · exact .inl ⟨j, by omega, e⟩
    · rw [if_neg hk]
      have h2 : ¬ (m = 0 ∨ d[m]! ≠ d[m - 1]!) := fun h => hk (by rw [keeps_dec]; exact decide_eq_true h)
      have h3 : m ≠ 0 := fun h => h2 (.inl h)
      have h4 : d[m]! = d[m - 1]! := by
        apply Classical.byContradiction
        intro h
        exact h2 (.inr h)
      constructor
      · rintro (⟨j, hj, e⟩ | e)
        · exact ⟨j, by omega, e⟩
        · cases e
      · rintro ⟨j, hj, e⟩
        by_cases e2 : j = m
        · subst e2; exact .inl ⟨j - 1, by omega, h4.symm.trans e⟩
        · exact .inl ⟨j, by omega, e⟩
theorem upTo_up (d : Array Int) (hd : ∀ i j : Nat, i ≤ j → j < d.size → d[i]! ≤ d[j]!) : ∀ m, m ≤ d.size → (Lib.compactUpTo d m).Pairwise (· < ·) ∧ ∀ x ∈ Lib.compactUpTo d m, x ≤ d[m - 1]! := by
  intro m
  induction m with
  | zero => intro _; exact ⟨by simp [Lib.compactUpTo], fun x hx => by simp [Lib.compactUpTo] at hx⟩
  | succ m ih =>
    intro hm
    obtain ⟨i1, i2⟩ := ih (by omega)
    rw [Lib.compactUpTo_succ]
    have hs : d[m - 1]! ≤ d[m]! := hd _ _ (by omega) (by omega)
    by_cases hk : Lib.keeps d m = true
    · rw [if_pos hk]
      rw [keeps_dec, decide_eq_true_eq] at hk
      have hlt : ∀ x ∈ Lib.compactUpTo d m, x < d[m]! := by
        intro x hx
        have := i2 x hx
        rcases hk with h | h
        · subst h; simp [Lib.compactUpTo] at hx
        · omega
      refine ⟨?_, fun x hx => ?_⟩
      · rw [List.pairwise_append]
        exact ⟨i1, by simp, fun x hx y hy => by rw [List.mem_singleton] at hy; subst hy; exact hlt x hx⟩
      · rw [Nat.add_sub_cancel]
        rcases List.mem_append.1 hx with h | h
        · exact Int.le_of_lt (hlt x h)
        · rw [List.mem_singleton] at h; subst h; exact Int.le_refl _
    · rw [if_neg hk, List.append_nil, Nat.add_sub_cancel]
      exact ⟨i1, fun x hx => Int.le_trans (i2 x hx) hs⟩
theorem cells_mem (l : List S33) (x : Int) : x ∈ cellsOf l ↔ ∃ j, j < l.length ∧ (rd_T33 l (j : Int)).f2 = x := by
  unfold cellsOf Lib.compact
  rw [upTo_mem]
  obtain ⟨zs, hz⟩ : ∃ zs, (l.map (·.f2)).mergeSort (fun x y => decide (x ≤ y)) = zs := ⟨_, rfl⟩
  rw [hz]
  have hm : ∀ y, y ∈ zs ↔ y ∈ l.map (·.f2) := fun y => by rw [← hz]; exact List.mem_mergeSort
  constructor
  · rintro ⟨j, hj, e⟩
    have h1 : x ∈ zs := by
      rw [← e]
      simp [hj]
    obtain ⟨a, ha, rfl⟩ := List.mem_map.1 ((hm x).1 h1)
    obtain ⟨i, hi, rfl⟩ := List.mem_iff_getElem.1 ha
    exact ⟨i, hi, by rw [T33_get l i hi]⟩
  · rintro ⟨j, hj, e⟩
    have h1 : x ∈ zs := (hm x).2 (List.mem_map.2 ⟨l[j], List.getElem_mem hj, by rw [T33_get l j hj]; exact e⟩)
    obtain ⟨i, hi, rfl⟩ := List.mem_iff_getElem.1 h1
    exact ⟨i, hi, by simp [hi]⟩
theorem cells_up (l : List S33) : (cellsOf l).Pairwise (· < ·) := by
  unfold cellsOf Lib.compact
  refine (upTo_up _ (fun i j hij hj => ?_) _ (by simp)).1
  have hs := List.pairwise_mergeSort (le := fun (x y : Int) => decide (x ≤ y)) (fun a b c h1 h2 => by simp only [decide_eq_true_eq] at *; omega) (fun a b => by simp only [Bool.or_eq_true, decide_eq_true_eq]; omega) (l.map (·.f2))
  generalize (l.map (·.f2)).mergeSort (fun x y => decide (x ≤ y)) = zs at *
  have hj' : j < zs.length := by simpa using hj
  have hi' : i < zs.length := by omega
  simp only [List.getElem!_toArray]
  rw [getElem!_pos zs i hi', getElem!_pos zs j hj']
  rcases Nat.lt_or_ge i j with h | h
  · have := List.pairwise_iff_getElem.1 hs i j hi' hj' h
    simpa using this
  · have : i = j := by omega
    subst this
    exact Int.le_refl _
theorem cells_len (l : List S33) : (cellsOf l).length ≤ l.length := by
  unfold cellsOf
  refine Nat.le_trans (Lib.compact_length_le _) ?_
  rw [List.length_mergeSort, List.length_map]
  exact Nat.le_refl _
theorem src_order (a b : S33) (hb : rdB b.f1 = true) : srcM a b = (decide (a.f2 = b.f2) && wrB a.f1 && (atomB a.f1 == atomB b.f1)) := by
  unfold srcM
  have h2 : plainK b.f1 = !atomB b.f1 := by
    simp only [rdB, Bool.or_eq_true, decide_eq_true_eq] at hb
    rcases hb with (((h | h) | h) | h) | h <;> rw [h] <;> rfl
  cases hw : wrB a.f1 with
  | false => simp
  | true =>
    have h1 : plainK a.f1 = !atomB a.f1 := by
      simp only [wrB, Bool.or_eq_true, decide_eq_true_eq] at hw
      rcases hw with ((h | h) | h) | h <;> rw [h] <;> rfl
    rw [h1, h2]
    cases atomB a.f1 <;> cases atomB b.f1 <;> simp
theorem source_loop (l : List S33) (hl : l.length ≤ 1000000) {i : Nat} (hi : i < l.length) (hb : rdB (rd_T33 l (i : Int)).f1 = true) : ∀ (m k : Nat), m ≤ i → m < k → order_Source.l0 k l i ((m : Int) - 1) = some (srcG l (rd_T33 l (i : Int)) m) := by
  intro m
  induction m with
  | zero =>
    intro k _ hk
    obtain ⟨k, rfl⟩ : ∃ q, k = q + 1 := ⟨k - 1, by omega⟩
    simp only [order_Source.l0]
    rw [if_neg (by omega)]
    rfl
  | succ m ih =>
    intro k hm hk
    obtain ⟨k, rfl⟩ : ∃ q, k = q + 1 := ⟨k - 1, by omega⟩
    have e : ((m + 1 : Nat) : Int) - 1 = (m : Int) := by omega
    have hn := ih k (by omega) (by omega)
    have hw : wrap64 ((m : Int) - 1) = (m : Int) - 1 := by unfold wrap64; omega
    rw [e]
    simp only [order_Source.l0]
    rw [if_pos (show (m : Int) ≥ 0 by omega), if_pos (show (0 : Int) ≤ (m : Int) by omega), if_pos (show (m : Int) < (l.length : Int) by omega), if_pos (show (0 : Int) ≤ (i : Int) by omega), if_pos (show (i : Int) < (l.length : Int) by omega), wr_is, Option.bind_some, atom_is, atom_is, Option.bind_some, Option.bind_some, hw, hn]
    have hg : srcG l (rd_T33 l (i : Int)) (m + 1) = if srcM (rd_T33 l (m : Int)) (rd_T33 l (i : Int)) = true then (m : Int) else srcG l (rd_T33 l (i : Int)) m := rfl
    rw [hg, src_order _ _ hb]
    by_cases c : (rd_T33 l (m : Int)).f2 = (rd_T33 l (i : Int)).f2
    · rw [if_pos c, decide_eq_true c, Bool.true_and]
      cases wrB (rd_T33 l (m : Int)).f1 with
      | false => simp
      | true => cases (atomB (rd_T33 l (m : Int)).f1 == atomB (rd_T33 l (i : Int)).f1) <;> simp
    · rw [if_neg c, decide_eq_false c]; simp
theorem source_same (l : List S33) (hl : l.length ≤ 1000000) (a : Int) {k : Nat} (hk : l.length + 10 < k) : order_Source.f k l a = sakiaref13_Source.f l a := by
  obtain ⟨k, rfl⟩ : ∃ q, k = q + 1 := ⟨k - 1, by omega⟩
  unfold order_Source.f sakiaref13_Source.f
  by_cases h1 : a < 0
  · rw [if_pos h1, if_pos h1]; simp [order_Source.j0]
  · rw [if_neg h1, if_neg h1]
    by_cases h2 : a ≥ (l.length : Int)
    · rw [if_pos h2, if_pos h2]; simp [order_Source.j0]
    · rw [if_neg h2, if_neg h2, if_pos (by omega), if_pos (by omega), rd_is, Option.bind_some]
      simp only [order_Source.j0]
      obtain ⟨i, rfl⟩ : ∃ i : Nat, a = (i : Int) := ⟨a.toNat, by omega⟩
      cases hb : rdB (rd_T33 l (i : Int)).f1 with
      | false => simp
      | true =>
        rw [show wrap64 ((i : Int) - 1) = (i : Int) - 1 by unfold wrap64; omega, source_loop l hl (by omega) hb i k (by omega) (by omega)]
        simp
theorem tells_l1 {l : List S33} {c : List Int} (hl : l.length ≤ 150) {kk : Nat} (hc : c.length ≤ 150) (hkk : kk < c.length) (hup : c.Pairwise (· < ·)) (d : Nat) : ∀ (k m : Nat) (met : Bool), m + d = l.length → (met = true ∨ ∃ j, m ≤ j ∧ j < l.length ∧ (rd_T33 l (j : Int)).f2 = rd c (kk : Int)) →
    sakialaw13_OrderTells.l1 (k + 1 + d) l c kk met m = sakialaw13_OrderTells.l0 k l c ((kk + 1 : Nat) : Int) := by
  induction d with
  | zero =>
    intro k m met hm hmet
    have hme : met = true := by
      rcases hmet with h | ⟨j, h1, h2, _⟩
      · exact h
      · omega
    subst hme
    simp only [Nat.add_zero, sakialaw13_OrderTells.l1]
    rw [if_neg (show ¬ (m : Int) < (l.length : Int) by omega), if_pos trivial, wrap_succ kk (by omega)]
    by_cases h0 : kk = 0
    · rw [if_neg (show ¬ (kk : Int) > 0 by omega)]
    · have e : wrap64 ((kk : Int) - 1) = ((kk - 1 : Nat) : Int) := by unfold wrap64; omega
      have hlt : rd c ((kk - 1 : Nat) : Int) < rd c (kk : Int) := by
        rw [rd_get _ _ (by omega), rd_get _ _ hkk]
        exact List.pairwise_iff_getElem.1 hup _ _ (by omega) hkk (by omega)
      rw [if_pos (show (kk : Int) > 0 by omega), e, if_pos (by omega), if_pos (by omega), if_pos (by omega), if_pos (by omega), if_neg (by omega)]
  | succ d ih =>
    intro k m met hm hmet
    rw [show k + 1 + (d + 1) = (k + 1 + d) + 1 by omega]
    simp only [sakialaw13_OrderTells.l1]
    rw [if_pos (show (m : Int) < (l.length : Int) by omega), wrap_succ m (by omega)]
    cases met with
    | true =>
      rw [if_pos rfl]
      exact ih k (m + 1) true (by omega) (.inl rfl)
    | false =>
      rw [if_neg (by decide), if_pos (show (0 : Int) ≤ (m : Int) by omega), if_pos (show (0 : Int) ≤ (kk : Int) by omega), if_pos (show (kk : Int) < (c.length : Int) by omega)]
      refine ih k (m + 1) _ (by omega) ?_
      rcases hmet with h | ⟨j, h1, h2, h3⟩
      · cases h
      · by_cases e : j = m
        · subst e; left; simp [h3]
        · right; exact ⟨j, by omega, h2, h3⟩
theorem tells_l3 {l : List S33} {c : List Int} (hl : l.length ≤ 150) (hc : c.length ≤ 150) {i : Nat} (hi : i < l.length) (d : Nat) : ∀ (k m : Nat) (met : Bool), m + d = c.length → (met = true ∨ ∃ j, m ≤ j ∧ j < c.length ∧ rd c (j : Int) = (rd_T33 l (i : Int)).f2) →
    sakialaw13_OrderTells.l3 (k + 1 + d) l c i met m = sakialaw13_OrderTells.l2 k l c ((i + 1 : Nat) : Int) := by
  induction d with
  | zero =>
    intro k m met hm hmet
    have hme : met = true := by
      rcases hmet with h | ⟨j, h1, h2, _⟩
      · exact h
      · omega
    subst hme
    simp only [Nat.add_zero, sakialaw13_OrderTells.l3]
    rw [if_neg (show ¬ (m : Int) < (c.length : Int) by omega), if_pos trivial, wrap_succ i (by omega)]
  | succ d ih =>
    intro k m met hm hmet
    rw [show k + 1 + (d + 1) = (k + 1 + d) + 1 by omega]
    simp only [sakialaw13_OrderTells.l3]
    rw [if_pos (show (m : Int) < (c.length : Int) by omega), wrap_succ m (by omega)]
    cases met with
    | true =>
      rw [if_pos rfl]
      exact ih k (m + 1) true (by omega) (.inl rfl)
    | false =>
      rw [if_neg (by decide), if_pos (show (0 : Int) ≤ (m : Int) by omega), if_pos (show (0 : Int) ≤ (i : Int) by omega), if_pos (show (i : Int) < (l.length : Int) by omega)]
      refine ih k (m + 1) _ (by omega) ?_
      rcases hmet with h | ⟨j, h1, h2, h3⟩
      · cases h
      · by_cases e : j = m
        · subst e; left; simp [h3]
        · right; exact ⟨j, by omega, h2, h3⟩
theorem tells_l2 {l : List S33} (hl : l.length ≤ 150) (d : Nat) : ∀ (k i : Nat), i + d = l.length → 110 + 160 * d ≤ k → sakialaw13_OrderTells.l2 k l (cellsOf l) i = some true := by
  have hcl := cells_len l
  induction d with
  | zero =>
    intro k i hi hk
    obtain ⟨k, rfl⟩ : ∃ q, k = q + 1 := ⟨k - 1, by omega⟩
    simp only [sakialaw13_OrderTells.l2]
    rw [if_neg (show ¬ (i : Int) < (l.length : Int) by omega), live_tot k (by omega)]
    rfl
  | succ d ih =>
    intro k i hi hk
    obtain ⟨k, rfl⟩ : ∃ q, k = q + 1 + (cellsOf l).length + 1 := ⟨k - 2 - (cellsOf l).length, by omega⟩
    simp only [sakialaw13_OrderTells.l2]
    have hm : (rd_T33 l (i : Int)).f2 ∈ cellsOf l := (cells_mem l _).2 ⟨i, by omega, rfl⟩
    obtain ⟨j, hj, e⟩ := List.mem_iff_getElem.1 hm
    have := tells_l3 hl (by omega) (show i < l.length by omega) (cellsOf l).length k 0 false (by omega) (.inr ⟨j, by omega, hj, by rw [rd_get _ _ hj]; exact e⟩)
    rw [show ((0 : Nat) : Int) = 0 from rfl] at this
    rw [if_pos (show (i : Int) < (l.length : Int) by omega), this]
    exact ih k (i + 1) (by omega) (by omega)
theorem tells_l0 {l : List S33} (hl : l.length ≤ 150) (d : Nat) : ∀ (k kk : Nat), kk + d = (cellsOf l).length → 50000 + 160 * d ≤ k → sakialaw13_OrderTells.l0 k l (cellsOf l) kk = some true := by
  have hcl := cells_len l
  induction d with
  | zero =>
    intro k kk hi hk
    obtain ⟨k, rfl⟩ : ∃ q, k = q + 1 := ⟨k - 1, by omega⟩
    simp only [sakialaw13_OrderTells.l0]
    have := tells_l2 hl l.length k 0 (by omega) (by omega)
    rw [show ((0 : Nat) : Int) = 0 from rfl] at this
    rw [if_neg (show ¬ (kk : Int) < ((cellsOf l).length : Int) by omega)]
    exact this
  | succ d ih =>
    intro k kk hi hk
    obtain ⟨k, rfl⟩ : ∃ q, k = q + 1 + l.length + 1 := ⟨k - 2 - l.length, by omega⟩
    simp only [sakialaw13_OrderTells.l0]
    have hkk : kk < (cellsOf l).length := by omega
    obtain ⟨j, hj, e⟩ := (cells_mem l (cellsOf l)[kk]).1 (List.getElem_mem hkk)
    have := tells_l1 hl (by omega) hkk (cells_up l) l.length k 0 false (by omega) (.inr ⟨j, by omega, hj, by rw [rd_get _ _ hkk]; exact e⟩)
    rw [show ((0 : Nat) : Int) = 0 from rfl] at this
    rw [if_pos (show (kk : Int) < ((cellsOf l).length : Int) by omega), this]
    exact ih k (kk + 1) (by omega) (by omega)
theorem OrderTells : sakialaw13_OrderTells.Pure := by
  intro n l a wn hmax hsz hwf wa
  refine ⟨100000, ?_⟩
  unfold sakialaw13_OrderTells.f
  by_cases hl : (l.length : Int) > 150
  · rw [if_pos hl, live_tot 100000 (by omega)]; rfl
  rw [if_neg hl, right_tot (by omega) (by omega), right_tot2 (by omega) (by omega), Option.bind_some, Option.bind_some, if_neg (by simp), source_same l (by omega) a (by omega)]
  have hs : ∃ x, sakiaref13_Source.f l a = some x := by
    unfold sakiaref13_Source.f
    split
    · exact ⟨_, rfl⟩
    · split
      · exact ⟨_, rfl⟩
      · split
        · exact ⟨_, rfl⟩
        · exact ⟨_, rfl⟩
  obtain ⟨x, hx⟩ := hs
  rw [hx, Option.bind_some, Option.bind_some, if_pos rfl, wr_is, wr_is2, Option.bind_some, Option.bind_some, if_neg (by simp), rd_is, rd_is2, Option.bind_some, Option.bind_some, if_neg (by simp)]
  have hc : order_Cells.f l = some (cellsOf l) := by
    unfold order_Cells.f
    rw [if_pos (by omega)]
  rw [hc, Option.bind_some]
  have hcl := cells_len l
  exact tells_l0 (by omega) (cellsOf l).length 100000 0 (by omega) (by omega)


end Go.Proofs.Yteahmcfinijmdaa.Pure
