/- It is proved that the law OrderRaces answers true for every input: which two accesses race first, or that none do, is what the document's table tells. Conditions: none. -/
import Derived.Test.YteahmcfinijmdaaQOrderRacesx11
namespace Go.Proofs.Yteahmcfinijmdaa.Pure
open Go Go.RowKit Go.Proofs.Yteahmcfinijmdaa.QOrderRaces Go.Proofs.YteahmcfinijmdaaW.PrintWords Go.Proofs.YteahmcfinijmdaaW.PrintLast Go.Proofs.YteahmcfinijmdaaW.PrintMore
set_option linter.unusedVariables false
set_option linter.unusedSimpArgs false

/-! What the clocks tell (no program in sight). -/
theorem rd_get2 (c : List Int) (u : Nat) : rd c (u : Int) = (c[u]?).getD 0 := by simp [rd, List.getD_eq_getElem?_getD]
theorem rd_set (c : List Int) (i u : Nat) (v : Int) (h : i < c.length) : rd (c.set i v) (u : Int) = if u = i then v else rd c (u : Int) := by
  rw [rd_get2, rd_get2, List.getElem?_set]
  by_cases e : i = u
  · subst e; simp [h]
  · rw [if_neg e, if_neg (fun e2 => e e2.symm)]
theorem rd_rep (n u : Nat) : rd (List.replicate n 0) (u : Int) = 0 := by
  rw [rd_get2, List.getElem?_replicate]
  split <;> rfl
theorem getD_set2 (K : List (List Int)) (t j : Nat) (c : List Int) (ht : t < K.length) : (K.set t c).getD j [] = if j = t then c else K.getD j [] := by
  simp only [List.getD_eq_getElem?_getD]
  rw [List.getElem?_set]
  by_cases e : t = j
  · subst e; simp [ht]
  · rw [if_neg e, if_neg (fun e2 => e e2.symm)]
/-- a clock of n threads, of at most m -/
def Cl (n m : Nat) (c : List Int) : Prop := c.length = n ∧ ∀ u : Nat, u < n → 0 ≤ rd c (u : Int) ∧ rd c (u : Int) ≤ (m : Int)
theorem Cl.right {n m : Nat} {c : List Int} (h : Cl n m c) (hn : 1 ≤ n) (hn2 : n ≤ 10) (hm : m ≤ 1099511627776) : right c = true :=
  right_mk (by rw [h.1]; omega) (by rw [h.1]; omega) (fun i hi => by have := h.2 i (by rw [← h.1]; exact hi); omega)
def InS (n : Nat) (s : CS) (c : List Int) : Prop := (∃ t, t < n ∧ c = s.K.getD t []) ∨ (∃ x, s.M x = some c) ∨ c ∈ s.O
structure Inv (n : Nat) (th : Nat → Nat) (i : Nat) (s : CS) : Prop where
  K : s.K.length = n
  O : s.O.length = i
  cl : ∀ c, InS n s c → Cl n i c
  own : ∀ c, InS n s c → ∀ u : Nat, u < n → rd c (u : Int) ≤ rd (s.K.getD u []) (u : Int)
  last : ∀ j, j < i → ∀ u : Nat, u < n → rd (s.O.getD j []) (u : Int) ≤ rd (s.K.getD (th j) []) (u : Int)
  clo : ∀ c, InS n s c → ∀ j, j < i → rd (s.O.getD j []) (th j : Int) ≤ rd c (th j : Int) → ∀ u : Nat, u < n → rd (s.O.getD j []) (u : Int) ≤ rd c (u : Int)
theorem Inv.start (n : Nat) (th : Nat → Nat) : Inv n th 0 (cs0 n) := by
  have hk : ∀ c, InS n (cs0 n) c → c = List.replicate n 0 := by
    intro c h
    rcases h with ⟨t, ht, e⟩ | ⟨x, e⟩ | e
    · rw [e]; simp [cs0, List.getD_eq_getElem?_getD, List.getElem?_replicate, ht]
    · simp [cs0] at e
    · simp [cs0] at e
  refine ⟨by simp [cs0], by simp [cs0], fun c h => ?_, fun c h u hu => ?_, fun j hj => absurd hj (by omega), fun c h j hj => absurd hj (by omega)⟩
  · rw [hk c h]
    exact ⟨by simp, fun u _ => by rw [rd_rep]; simp⟩
  · rw [hk c h]
    have : (cs0 n).K.getD u [] = List.replicate n 0 := by simp [cs0, List.getD_eq_getElem?_getD, List.getElem?_replicate, hu]
    rw [this]
    exact Int.le_refl _
/-- what an access joins with: its cell's clock, or its thread's own -/
def mixC (s : CS) (a : S33) (t : Nat) : List Int := if (s.M a.f2).isSome && (atomB a.f1 && rdB a.f1) then (s.M a.f2).getD [] else s.K.getD t []
theorem mixC_in {n : Nat} {s : CS} {a : S33} {t : Nat} (ht : t < n) : InS n s (mixC s a t) := by
  unfold mixC
  split
  · rename_i h
    simp only [Bool.and_eq_true] at h
    obtain ⟨c, hc⟩ := Option.isSome_iff_exists.1 h.1
    rw [hc]
    exact .inr (.inl ⟨_, hc⟩)
  · exact .inl ⟨t, ht, rfl⟩
theorem tick_rd {n i t : Nat} {c : List Int} (h : Cl n i c) (hn : 1 ≤ n) (hn2 : n ≤ 10) (hi : i < 1099511627776) (ht : t < n) :
    (tick c (t : Int)).length = n ∧ ∀ u : Nat, u < n → rd (tick c (t : Int)) (u : Int) = rd c (u : Int) + if u = t then 1 else 0 := by
  have hr := h.right hn hn2 (by omega)
  have h2 := h.2 t ht
  unfold tick
  rw [if_pos ⟨hr, by omega, by rw [h.1]; omega, by omega⟩]
  refine ⟨by rw [List.length_set]; exact h.1, fun u hu => ?_⟩
  rw [Int.toNat_natCast, rd_set _ _ _ _ (by rw [h.1]; exact ht)]
  by_cases e : u = t
  · subst e; simp
  · rw [if_neg e, if_neg e]; omega
theorem clk1_rd {n i t : Nat} {th : Nat → Nat} {s : CS} {a : S33} (h : Inv n th i s) (hn : 1 ≤ n) (hn2 : n ≤ 10) (hi : i < 1099511627776) (ht : t < n) (ha : a.f0 = (t : Int)) :
    (clk1 s a).length = n ∧ ∀ u : Nat, u < n → rd (clk1 s a) (u : Int) = max (rd (s.K.getD t []) (u : Int) + if u = t then 1 else 0) (rd (mixC s a t) (u : Int)) := by
  have hK := h.cl _ (.inl ⟨t, ht, rfl⟩)
  obtain ⟨t1, t2⟩ := tick_rd hK hn hn2 hi ht
  unfold clk1 mixC
  rw [ha, Int.toNat_natCast]
  split
  · rename_i hc
    simp only [Bool.and_eq_true] at hc
    obtain ⟨m, hm⟩ := Option.isSome_iff_exists.1 hc.1
    rw [hm]
    simp only [Option.getD_some]
    have hM := h.cl m (.inr (.inl ⟨_, hm⟩))
    have tC : Cl n (i + 1) (tick (s.K.getD t []) (t : Int)) := ⟨t1, fun u hu => by have := hK.2 u hu; rw [t2 u hu]; split <;> omega⟩
    have hb : both (tick (s.K.getD t []) (t : Int)) m = true := both_mk (tC.right hn hn2 (by omega)) (hM.right hn hn2 (by omega)) (by rw [t1, hM.1])
    unfold join
    rw [if_pos hb]
    refine ⟨by rw [joinZ_len (by rw [t1, hM.1]), t1], fun u hu => ?_⟩
    rw [joinZ_rd (by rw [t1, hM.1]) u (by rw [t1]; exact hu), t2 u hu]
    unfold mx
    split <;> omega
  · refine ⟨t1, fun u hu => ?_⟩
    rw [t2 u hu]
    split <;> omega
theorem Inv.step {n i t : Nat} {th : Nat → Nat} {s : CS} {a : S33} (h : Inv n th i s) (hn : 1 ≤ n) (hn2 : n ≤ 10) (hi : i < 1099511627776) (ht : t < n) (ha : a.f0 = (t : Int)) (hth : th i = t) (hall : ∀ j, j < i → th j < n) : Inv n th (i + 1) (cstep s a) := by
  obtain ⟨l1, l2⟩ := clk1_rd h hn hn2 hi ht ha
  have hm := mixC_in (s := s) (a := a) ht
  have hmo := h.own _ hm
  have hmc := h.clo _ hm
  have hml := h.cl _ hm
  have hKi : InS n s (s.K.getD t []) := .inl ⟨t, ht, rfl⟩
  have hKo := h.own _ hKi
  have hKc := h.clo _ hKi
  have hKl := h.cl _ hKi
  have hs : cstep s a = ⟨s.K.set t (clk1 s a), clkM s a (clk1 s a), s.O ++ [clk1 s a]⟩ := by unfold cstep; rw [ha, Int.toNat_natCast]
  rw [hs]
  clear hs
  generalize hc : clk1 s a = c at *
  generalize mixC s a t = m at *
  have hin : ∀ x, InS n ⟨s.K.set t c, clkM s a c, s.O ++ [c]⟩ x → x = c ∨ InS n s x := by
    intro x hx
    rcases hx with ⟨u, hu, e⟩ | ⟨y, e⟩ | e
    · simp only at e
      rw [getD_set2 _ _ _ _ (by rw [h.K]; exact ht)] at e
      by_cases e2 : u = t
      · rw [if_pos e2] at e; exact .inl e
      · rw [if_neg e2] at e; exact .inr (.inl ⟨u, hu, e⟩)
    · simp only [clkM] at e
      split at e
      · simp only at e
        by_cases e2 : y = a.f2
        · rw [if_pos e2] at e; exact .inl (Option.some.inj e).symm
        · rw [if_neg e2] at e; exact .inr (.inr (.inl ⟨y, e⟩))
      · exact .inr (.inr (.inl ⟨y, e⟩))
    · rcases List.mem_append.1 e with e | e
      · exact .inr (.inr (.inr e))
      · exact .inl (by simpa using e)
  have hct : rd c (t : Int) = rd (s.K.getD t []) (t : Int) + 1 := by
    have := l2 t ht
    have := hmo t ht
    rw [if_pos rfl] at *
    omega
  have hcK : ∀ u : Nat, u < n → rd (s.K.getD t []) (u : Int) ≤ rd c (u : Int) := fun u hu => by have := l2 u hu; split at this <;> omega
  have hcm : ∀ u : Nat, u < n → rd m (u : Int) ≤ rd c (u : Int) := fun u hu => by have := l2 u hu; omega
  have hO : ∀ j, j < i → (s.O ++ [c]).getD j [] = s.O.getD j [] := fun j hj => by
    simp only [List.getD_eq_getElem?_getD]
    rw [List.getElem?_append_left (by rw [h.O]; exact hj)]
  have hOi : (s.O ++ [c]).getD i [] = c := by
    simp only [List.getD_eq_getElem?_getD]
    rw [List.getElem?_append_right (by rw [h.O]; omega), h.O]
    simp
  have hKn : ∀ u, (s.K.set t c).getD u [] = if u = t then c else s.K.getD u [] := fun u => getD_set2 _ _ _ _ (by rw [h.K]; exact ht)
  refine ⟨by simpa using h.K, by simp [h.O], fun x hx => ?_, fun x hx u hu => ?_, fun j hj u hu => ?_, fun x hx j hj hle u hu => ?_⟩
  · rcases hin x hx with rfl | hx
    · refine ⟨l1, fun u hu => ?_⟩
      have h1 := l2 u hu
      have h2 := hKl.2 u hu
      have h3 := hml.2 u hu
      split at h1 <;> omega
    · have := h.cl x hx
      exact ⟨this.1, fun u hu => by have := this.2 u hu; omega⟩
  · simp only [hKn]
    by_cases e : u = t
    · rw [if_pos e]
      subst e
      rcases hin x hx with rfl | hx
      · exact Int.le_refl _
      · have := h.own x hx u hu; omega
    · rw [if_neg e]
      rcases hin x hx with rfl | hx
      · have h1 := l2 u hu
        have h2 := hmo u hu
        have h3 := hKo u hu
        rw [if_neg e] at h1
        omega
      · exact h.own x hx u hu
  · simp only [hKn]
    by_cases e : j < i
    · rw [hO j e]
      have h1 := h.last j e u hu
      by_cases e2 : th j = t
      · rw [if_pos e2]
        have h2 := hcK u hu
        rw [e2] at h1
        omega
      · rw [if_neg e2]; exact h1
    · obtain rfl : j = i := by omega
      rw [hOi, if_pos hth]
      exact Int.le_refl _
  · simp only at hle ⊢
    by_cases e : j < i
    · rw [hO j e] at hle ⊢
      rcases hin x hx with rfl | hx
      · by_cases e2 : th j = t
        · have h1 := h.last j e u hu
          have h2 := hcK u hu
          rw [e2] at h1
          omega
        · have h1 := l2 (th j) (hall j e)
          rw [if_neg e2] at h1
          have h2 := hcK u hu
          have h3 := hcm u hu
          by_cases e3 : rd (s.O.getD j []) (th j : Int) ≤ rd m (th j : Int)
          · have := hmc j e e3 u hu; omega
          · have := hKc j e (by omega) u hu; omega
      · exact h.clo x hx j e hle u hu
    · obtain rfl : j = i := by omega
      rw [hOi] at hle ⊢
      rcases hin x hx with rfl | hx
      · exact Int.le_refl _
      · rw [hth] at hle
        have := h.own x hx t ht
        omega
theorem T33_drop (l : List S33) (i : Nat) (h : i < l.length) : l.drop i = rd_T33 l (i : Int) :: l.drop (i + 1) := by
  rw [List.drop_eq_getElem_cons h]
  simp [rd_T33, List.getD_eq_getElem?_getD, h]
theorem T33_get (l : List S33) (i : Nat) (h : i < l.length) : l[i] = rd_T33 l (i : Int) := by
  simp [rd_T33, List.getD_eq_getElem?_getD, h]
def okA (n : Int) (a : S33) : Bool := decide (0 ≤ a.f0) && decide (a.f0 < n) && decide (1 ≤ a.f1) && decide (a.f1 ≤ 7) && decide (0 ≤ a.f2)
def rightB (n : Int) (l : List S33) : Bool := decide (1 ≤ n) && decide (n ≤ 10) && l.all (okA n)
theorem right_tot_loop {n : Int} {l : List S33} (hl : l.length < 9223372036854775807) (d : Nat) : ∀ (k i : Nat), i + d = l.length → d < k → order_Right.l0 k n l l.length i = some ((l.drop i).all (okA n)) := by
  induction d with
  | zero =>
    intro k i hi hk
    obtain ⟨k, rfl⟩ : ∃ m, k = m + 1 := ⟨k - 1, by omega⟩
    simp only [order_Right.l0]
    rw [if_neg (by omega), List.drop_of_length_le (by omega)]
    rfl
  | succ d ih =>
    intro k i hi hk
    obtain ⟨k, rfl⟩ : ∃ m, k = m + 1 := ⟨k - 1, by omega⟩
    simp only [order_Right.l0]
    rw [if_pos (by omega), if_pos (by omega), if_pos (by omega), T33_drop l i (by omega), List.all_cons]
    have hR := ih k (i + 1) (by omega) (by omega)
    generalize (List.drop (i + 1) l).all (okA n) = R at *
    generalize rd_T33 l (i : Int) = a
    unfold okA
    by_cases c1 : a.f0 < 0
    · rw [if_pos c1, decide_eq_false (show ¬ 0 ≤ a.f0 by omega)]; simp
    rw [if_neg c1, decide_eq_true (show 0 ≤ a.f0 by omega)]
    by_cases c2 : a.f0 ≥ n
    · rw [if_pos c2, decide_eq_false (show ¬ a.f0 < n by omega)]; simp
    rw [if_neg c2, decide_eq_true (show a.f0 < n by omega)]
    by_cases c3 : a.f1 < 1
    · rw [if_pos c3, decide_eq_false (show ¬ 1 ≤ a.f1 by omega)]; simp
    rw [if_neg c3, decide_eq_true (show 1 ≤ a.f1 by omega)]
    by_cases c4 : a.f1 > 7
    · rw [if_pos c4, decide_eq_false (show ¬ a.f1 ≤ 7 by omega)]; simp
    rw [if_neg c4, decide_eq_true (show a.f1 ≤ 7 by omega)]
    by_cases c5 : a.f2 < 0
    · rw [if_pos c5, decide_eq_false (show ¬ 0 ≤ a.f2 by omega)]; simp
    rw [if_neg c5, decide_eq_true (show 0 ≤ a.f2 by omega), wrap_succ i (by omega)]
    rw [hR]
    simp
theorem right_tot {n : Int} {l : List S33} {k : Nat} (hl : l.length < 9223372036854775807) (hk : l.length + 1 < k) : order_Right.f k n l = some (rightB n l) := by
  obtain ⟨k, rfl⟩ : ∃ m, k = m + 1 := ⟨k - 1, by omega⟩
  unfold order_Right.f rightB
  by_cases h1 : n < 1
  · rw [if_pos h1, decide_eq_false (show ¬ 1 ≤ n by omega)]
    simp [order_Right.j0]
  · rw [if_neg h1, decide_eq_true (show 1 ≤ n by omega)]
    simp only [order_Right.j0]
    by_cases h2 : n > 10
    · rw [decide_eq_true h2, if_pos rfl, decide_eq_false (show ¬ n ≤ 10 by omega)]; simp
    · rw [decide_eq_false h2, if_neg (by decide), decide_eq_true (show n ≤ 10 by omega)]
      exact right_tot_loop hl l.length k 0 (by omega) (by omega)
theorem rightB_parts {n : Int} {l : List S33} (h : rightB n l = true) : 1 ≤ n ∧ n ≤ 10 ∧ ∀ j : Nat, j < l.length → 0 ≤ (rd_T33 l (j : Int)).f0 ∧ (rd_T33 l (j : Int)).f0 < n ∧ 1 ≤ (rd_T33 l (j : Int)).f1 ∧ (rd_T33 l (j : Int)).f1 ≤ 7 ∧ 0 ≤ (rd_T33 l (j : Int)).f2 := by
  simp only [rightB, Bool.and_eq_true, decide_eq_true_eq, List.all_eq_true] at h
  refine ⟨h.1.1, h.1.2, fun j hj => ?_⟩
  have := h.2 _ (List.getElem_mem hj)
  rw [T33_get l j hj] at this
  simp only [okA, Bool.and_eq_true, decide_eq_true_eq] at this
  omega
/-- an access's thread -/
def thr (l : List S33) (j : Nat) : Nat := (rd_T33 l (j : Int)).f0.toNat
theorem inv_run {n : Int} {l : List S33} (h : rightB n l = true) (hl : l.length ≤ 1000000) : ∀ i, i ≤ l.length → Inv n.toNat (thr l) i (crun n.toNat (l.take i)) := by
  obtain ⟨h1, h2, h3⟩ := rightB_parts h
  intro i
  induction i with
  | zero => intro _; exact Inv.start _ _
  | succ i ih =>
    intro hi
    rw [crun_succ n.toNat l i (by omega), T33_get l i (by omega)]
    have h4 := h3 i (by omega)
    refine (ih (by omega)).step (t := thr l i) (by omega) (by omega) (by omega) ?_ ?_ rfl (fun j hj => ?_)
    · unfold thr; omega
    · unfold thr; omega
    · have := h3 j (by omega)
      unfold thr; omega
theorem crun_pre (n : Nat) (l : List S33) (i : Nat) (hi : i ≤ l.length) : (crun n l).O.take i = (crun n (l.take i)).O := by
  have h : ∀ (m : List S33) (s : CS), ∃ r, (m.foldl cstep s).O = s.O ++ r := by
    intro m
    induction m with
    | nil => intro s; exact ⟨[], by simp⟩
    | cons a m ih =>
      intro s
      obtain ⟨r, hr⟩ := ih (cstep s a)
      exact ⟨clk1 s a :: r, by rw [List.foldl_cons, hr]; simp [cstep]⟩
  obtain ⟨r, hr⟩ := h (l.drop i) (crun n (l.take i))
  have e : crun n l = (l.drop i).foldl cstep (crun n (l.take i)) := by
    unfold crun
    rw [← List.foldl_append, List.take_append_drop]
  rw [e, hr, List.take_append_of_le_length (by rw [crun_O]; simp; omega), List.take_of_length_le (by rw [crun_O]; simp; omega)]
/-- access i's clock -/
def ck (n : Int) (l : List S33) (i : Nat) : List Int := (crun n.toNat l).O.getD i []
theorem ck_pre {n : Int} {l : List S33} {i j : Nat} (hi : i ≤ l.length) (hj : j < i) : (crun n.toNat (l.take i)).O.getD j [] = ck n l j := by
  unfold ck
  rw [← crun_pre n.toNat l i hi]
  simp only [List.getD_eq_getElem?_getD]
  rw [List.getElem?_take, if_pos hj]
theorem ck_new {n : Int} {l : List S33} {i : Nat} (hi : i < l.length) : ck n l i = clk1 (crun n.toNat (l.take i)) (rd_T33 l (i : Int)) := by
  rw [← ck_pre (i := i + 1) (by omega) (by omega), crun_succ n.toNat l i hi, T33_get l i hi]
  unfold cstep
  simp only [List.getD_eq_getElem?_getD]
  have hO := crun_O n.toNat (l.take i)
  rw [List.getElem?_append_right (by rw [hO]; simp; omega), hO]
  simp [List.length_take, Nat.min_eq_left (Nat.le_of_lt hi)]
theorem ck_in {n : Int} {l : List S33} {i : Nat} (hi : i < l.length) : InS n.toNat (crun n.toNat l) (ck n l i) := by
  refine .inr (.inr ?_)
  unfold ck
  rw [List.getD_eq_getElem?_getD, List.getElem?_eq_getElem (by rw [crun_O]; exact hi)]
  exact List.getElem_mem _
theorem inv_end {n : Int} {l : List S33} (h : rightB n l = true) (hl : l.length ≤ 1000000) : Inv n.toNat (thr l) l.length (crun n.toNat l) := by
  have := inv_run h hl l.length (Nat.le_refl _)
  rwa [List.take_length] at this
/-- access j's count is known to access i -/
def kn (n : Int) (l : List S33) (i j : Nat) : Bool := decide (rd (ck n l j) (thr l j : Int) ≤ rd (ck n l i) (thr l j : Int))
theorem kn_trans {n : Int} {l : List S33} (h : rightB n l = true) (hl : l.length ≤ 1000000) {i j k : Nat} (hi : i < l.length) (hj : j < l.length) (hk : k < l.length) (h1 : kn n l i j = true) (h2 : kn n l j k = true) : kn n l i k = true := by
  have hI := inv_end h hl
  simp only [kn, decide_eq_true_eq] at *
  have := hI.clo _ (ck_in hi) j hj h1 (thr l k) (by obtain ⟨p1, p2, p3⟩ := rightB_parts h; have := p3 k hk; unfold thr; omega)
  have e : (crun n.toNat l).O.getD j [] = ck n l j := rfl
  rw [e] at this
  omega
theorem rd_L3_ck {n : Int} {l : List S33} (i : Nat) : rd_L3 (crun n.toNat l).O (i : Int) = ck n l i := rfl
theorem knows_tot {n : Int} {l : List S33} (h : rightB n l = true) (hl : l.length ≤ 1000000) {i j k : Nat} (hk : 20 ≤ k) (hi : i < l.length) (hj : j < l.length) : tick_Knows.f k (ck n l i) (rd_T33 l (j : Int)).f0 (rd (ck n l j) (rd_T33 l (j : Int)).f0) = some (kn n l i j) := by
  obtain ⟨p1, p2, p3⟩ := rightB_parts h
  have h4 := p3 j hj
  have hc := (inv_end h hl).cl _ (ck_in hi)
  have e : (rd_T33 l (j : Int)).f0 = (thr l j : Int) := by unfold thr; omega
  rw [tknows _ _ _ k hk, hc.right (by omega) (by omega) (by omega), e, decide_eq_true (show (0 : Int) ≤ (thr l j : Int) by omega), hc.1, decide_eq_true (show (thr l j : Int) < (n.toNat : Int) by omega)]
  rfl
theorem behind_tot {n : Int} {l : List S33} (h : rightB n l = true) (hl : l.length ≤ 1000000) {i j k : Nat} (hk : 20 ≤ k) (hi : i < l.length) (hj : j < l.length) : order_behind.f k l (crun n.toNat l).O (i : Int) (j : Int) = some (kn n l i j) := by
  obtain ⟨p1, p2, p3⟩ := rightB_parts h
  have h4 := p3 j hj
  have hc := (inv_end h hl).cl _ (ck_in hj)
  unfold order_behind.f
  rw [crun_O, if_pos (by omega), if_pos (by omega), if_pos (by omega), if_pos (by omega), if_pos (by omega), if_pos (by omega), rd_L3_ck, rd_L3_ck, if_pos (by rw [hc.1]; omega), knows_tot h hl hk hi hj]
  rfl
theorem clocks_tot {n : Int} {l : List S33} {k : Nat} (h : rightB n l = true) (hl : l.length ≤ 1000000) (hk : 20 ≤ k) (hk2 : l.length + 1 < k) (hw : ∀ x ∈ l, x.f2 < 9223372036854775808) : order_Clocks.f k n l = some (crun n.toNat l).O := by
  unfold order_Clocks.f
  rw [right_tot (by omega) hk2, h, Option.bind_some, if_pos rfl, if_pos hk, if_pos (by omega), if_pos (by omega), if_pos (by rw [List.all_eq_true]; intro x hx; exact decide_eq_true (hw x hx))]
theorem clocks_not {n : Int} {l : List S33} {k : Nat} (h : rightB n l = false) (hl : l.length ≤ 1000000) (hk2 : l.length + 1 < k) : order_Clocks.f k n l = some [] := by
  unfold order_Clocks.f
  rw [right_tot (by omega) hk2, h, Option.bind_some, if_neg (by decide)]

/-! The reference's table tells what the clocks know. -/
def lastT (l : List S33) (t : Nat) : Nat → Int
  | 0 => -1
  | i + 1 => if thr l i = t then (i : Int) else lastT l t i
def lastW (l : List S33) (x : Int) : Nat → Int
  | 0 => -1
  | i + 1 => if (atomB (rd_T33 l (i : Int)).f1 && wrB (rd_T33 l (i : Int)).f1) = true ∧ x = (rd_T33 l (i : Int)).f2 then (i : Int) else lastW l x i
theorem lastT_bound (l : List S33) (t : Nat) : ∀ i, -1 ≤ lastT l t i ∧ lastT l t i < i := by
  intro i
  induction i with
  | zero => simp [lastT]
  | succ i ih => unfold lastT; split <;> omega
theorem lastW_bound (l : List S33) (x : Int) : ∀ i, -1 ≤ lastW l x i ∧ lastW l x i < i := by
  intro i
  induction i with
  | zero => simp [lastW]
  | succ i ih => unfold lastW; split <;> omega
theorem lastT_thr (l : List S33) (t : Nat) : ∀ i, 0 ≤ lastT l t i → thr l (lastT l t i).toNat = t := by
  intro i
  induction i with
  | zero => intro h; simp [lastT] at h
  | succ i ih =>
    unfold lastT
    split
    · rename_i h; intro _; simpa using h
    · exact ih
theorem lastT_ge (l : List S33) (t : Nat) : ∀ i k, k < i → thr l k = t → (k : Int) ≤ lastT l t i := by
  intro i
  induction i with
  | zero => intro k hk; omega
  | succ i ih =>
    intro k hk ht
    unfold lastT
    split
    · omega
    · rename_i h
      have : k ≠ i := fun e => h (e ▸ ht)
      exact ih k (by omega) ht
theorem state_is {n : Int} {l : List S33} (h : rightB n l = true) (hl : l.length ≤ 1000000) : ∀ i, i ≤ l.length →
    (∀ t, t < n.toNat → (crun n.toNat (l.take i)).K.getD t [] = if lastT l t i < 0 then List.replicate n.toNat 0 else ck n l (lastT l t i).toNat) ∧
    (∀ x, (crun n.toNat (l.take i)).M x = if lastW l x i < 0 then none else some (ck n l (lastW l x i).toNat)) := by
  intro i
  induction i with
  | zero =>
    intro _
    refine ⟨fun t ht => ?_, fun x => ?_⟩
    · rw [if_pos (by simp [lastT])]
      simp [crun, cs0, List.getD_eq_getElem?_getD, List.getElem?_replicate, ht]
    · rw [if_pos (by simp [lastW])]
      rfl
  | succ i ih =>
    intro hi
    obtain ⟨i1, i2⟩ := ih (by omega)
    have hn := ck_new (n := n) (l := l) (i := i) (by omega)
    have hK := crun_K n.toNat (l.take i)
    have hp := (rightB_parts h).2.2 i (by omega)
    rw [crun_succ n.toNat l i (by omega), T33_get l i (by omega)]
    have e : cstep (crun n.toNat (l.take i)) (rd_T33 l (i : Int)) = ⟨(crun n.toNat (l.take i)).K.set (thr l i) (ck n l i), clkM (crun n.toNat (l.take i)) (rd_T33 l (i : Int)) (ck n l i), (crun n.toNat (l.take i)).O ++ [ck n l i]⟩ := by
      rw [hn]; rfl
    rw [e]
    refine ⟨fun t ht => ?_, fun x => ?_⟩
    · simp only
      rw [getD_set2 _ _ _ _ (by rw [hK]; unfold thr; omega)]
      by_cases e2 : t = thr l i
      · have e3 : lastT l t (i + 1) = (i : Int) := by
          show (if _ then _ else _) = _
          rw [if_pos e2.symm]
        rw [if_pos e2, e3, if_neg (show ¬ (i : Int) < 0 by omega), Int.toNat_natCast]
      · have e3 : lastT l t (i + 1) = lastT l t i := by
          show (if _ then _ else _) = _
          rw [if_neg (fun e4 => e2 e4.symm)]
        rw [if_neg e2, e3]
        exact i1 t ht
    · simp only [clkM]
      cases hc : (atomB (rd_T33 l (i : Int)).f1 && wrB (rd_T33 l (i : Int)).f1) with
      | false =>
        have e3 : lastW l x (i + 1) = lastW l x i := by
          show (if _ then _ else _) = _
          rw [if_neg (fun e4 => by rw [hc] at e4; exact absurd e4.1 (by decide))]
        rw [if_neg (by decide), e3]
        exact i2 x
      | true =>
        rw [if_pos rfl]
        by_cases e2 : x = (rd_T33 l (i : Int)).f2
        · have e3 : lastW l x (i + 1) = (i : Int) := by
            show (if _ then _ else _) = _
            rw [if_pos ⟨hc, e2⟩]
          rw [e3, if_neg (show ¬ (i : Int) < 0 by omega), Int.toNat_natCast]
          simp only [if_pos e2]
        · have e3 : lastW l x (i + 1) = lastW l x i := by
            show (if _ then _ else _) = _
            rw [if_neg (fun e4 => e2 e4.2)]
          rw [e3]
          simp only [if_neg e2]
          exact i2 x
/-- an access's own count is above whatever was known ahead of it -/
theorem own_new {n : Int} {l : List S33} (h : rightB n l = true) (hl : l.length ≤ 1000000) {i : Nat} (hi : i < l.length) (c : List Int) (hc : InS n.toNat (crun n.toNat (l.take i)) c) : rd c (thr l i : Int) < rd (ck n l i) (thr l i : Int) := by
  have hp := (rightB_parts h)
  have hp2 := hp.2.2 i hi
  have hI := inv_run h hl i (by omega)
  have ht : thr l i < n.toNat := by unfold thr; omega
  obtain ⟨_, l2⟩ := clk1_rd (t := thr l i) hI (by omega) (by omega) (by omega) ht (a := rd_T33 l (i : Int)) (by unfold thr; omega)
  have h1 := l2 _ ht
  have h2 := hI.own c hc _ ht
  rw [if_pos rfl] at h1
  rw [ck_new hi]
  omega
theorem ck_in_take {n : Int} {l : List S33} {i j : Nat} (hi : i ≤ l.length) (hj : j < i) : InS n.toNat (crun n.toNat (l.take i)) (ck n l j) := by
  refine .inr (.inr ?_)
  rw [← ck_pre hi hj]
  have hO := crun_O n.toNat (l.take i)
  rw [List.getD_eq_getElem?_getD, List.getElem?_eq_getElem (by rw [hO, List.length_take]; omega)]
  exact List.getElem_mem _
theorem kn_later {n : Int} {l : List S33} (h : rightB n l = true) (hl : l.length ≤ 1000000) {j k : Nat} (hk : k < l.length) (hjk : j < k) : kn n l j k = false := by
  have := own_new h hl hk _ (ck_in_take (Nat.le_of_lt hk) hjk)
  simp only [kn, decide_eq_false_iff_not]
  omega
theorem kn_self (n : Int) (l : List S33) (j : Nat) : kn n l j j = true := by simp [kn]
theorem own_pos {n : Int} {l : List S33} (h : rightB n l = true) (hl : l.length ≤ 1000000) {k : Nat} (hk : k < l.length) : 0 < rd (ck n l k) (thr l k : Int) := by
  have hp := (rightB_parts h).2.2 k hk
  have ht : thr l k < n.toNat := by unfold thr; omega
  have hI := inv_run h hl k (by omega)
  have h1 := own_new h hl hk _ (.inl ⟨thr l k, ht, rfl⟩)
  have h2 := (hI.cl _ (.inl ⟨thr l k, ht, rfl⟩)).2 _ ht
  omega
/-- from which access an access reads, if it is atomic -/
def srcA (l : List S33) (i : Nat) : Int := if atomB (rd_T33 l (i : Int)).f1 = true then (if rdB (rd_T33 l (i : Int)).f1 = true then lastW l (rd_T33 l (i : Int)).f2 i else -1) else -1
theorem mix_is {n : Int} {l : List S33} (h : rightB n l = true) (hl : l.length ≤ 1000000) {i : Nat} (hi : i < l.length) : mixC (crun n.toNat (l.take i)) (rd_T33 l (i : Int)) (thr l i) = if srcA l i < 0 then (crun n.toNat (l.take i)).K.getD (thr l i) [] else ck n l (srcA l i).toNat := by
  have hM := (state_is h hl i (by omega)).2 (rd_T33 l (i : Int)).f2
  unfold mixC srcA
  cases ha : atomB (rd_T33 l (i : Int)).f1 with
  | false => simp
  | true =>
    cases hb : rdB (rd_T33 l (i : Int)).f1 with
    | false => simp
    | true =>
      rw [if_pos rfl, if_pos rfl, hM]
      by_cases e : lastW l (rd_T33 l (i : Int)).f2 i < 0
      · rw [if_pos e, if_pos e]; simp
      · rw [if_neg e, if_neg e]; simp
theorem srcA_bound (l : List S33) (i : Nat) : -1 ≤ srcA l i ∧ srcA l i < i := by
  have := lastW_bound l (rd_T33 l (i : Int)).f2 i
  unfold srcA
  split
  · split <;> omega
  · omega
/-- whether k stands behind an earlier one, false otherwise -/
def tb (n : Int) (l : List S33) (i k : Nat) : Bool := decide (k < i) && kn n l i k
theorem tb_row {n : Int} {l : List S33} (h : rightB n l = true) (hl : l.length ≤ 1000000) {i k : Nat} (hi : i < l.length) (hk : k < i) :
    tb n l i k = (decide ((k : Int) = lastT l (thr l i) i) || decide ((k : Int) = srcA l i) || (decide (0 ≤ lastT l (thr l i) i) && tb n l (lastT l (thr l i) i).toNat k) || (decide (0 ≤ srcA l i) && tb n l (srcA l i).toNat k)) := by
  have hp := rightB_parts h
  have hp2 := hp.2.2 i hi
  have hp3 := hp.2.2 k (by omega)
  have hI := inv_run h hl i (by omega)
  have ht : thr l i < n.toNat := by unfold thr; omega
  have htk : thr l k < n.toNat := by unfold thr; omega
  obtain ⟨_, l2⟩ := clk1_rd (t := thr l i) hI (by omega) (by omega) (by omega) ht (a := rd_T33 l (i : Int)) (by unfold thr; omega)
  have h1 := l2 _ htk
  rw [mix_is h hl hi, ← ck_new hi] at h1
  have hKs := (state_is h hl i (by omega)).1 _ ht
  have hpos := own_pos h hl (show k < l.length by omega)
  have hTb := lastT_bound l (thr l i) i
  have hSb := srcA_bound l i
  -- what access m knows of k, as the table has it
  have known : ∀ m : Nat, m < i → (decide (rd (ck n l k) (thr l k : Int) ≤ rd (ck n l m) (thr l k : Int)) = (decide (k = m) || tb n l m k)) := by
    intro m hm
    show kn n l m k = _
    unfold tb
    rcases Nat.lt_trichotomy k m with e | e | e
    · rw [decide_eq_true e, decide_eq_false (show ¬ k = m by omega)]; simp
    · subst e; rw [kn_self]; simp
    · rw [kn_later h hl (show k < l.length by omega) e, decide_eq_false (show ¬ k < m by omega), decide_eq_false (show ¬ k = m by omega)]; simp
  have hzero : ¬ rd (ck n l k) (thr l k : Int) ≤ rd (List.replicate n.toNat 0) (thr l k : Int) := by rw [rd_rep]; omega
  have hKk : decide (rd (ck n l k) (thr l k : Int) ≤ rd ((crun n.toNat (l.take i)).K.getD (thr l i) []) (thr l k : Int)) = (decide ((k : Int) = lastT l (thr l i) i) || (decide (0 ≤ lastT l (thr l i) i) && tb n l (lastT l (thr l i) i).toNat k)) := by
    rw [hKs]
    by_cases e : lastT l (thr l i) i < 0
    · rw [if_pos e, decide_eq_false hzero, decide_eq_false (show ¬ (k : Int) = lastT l (thr l i) i by omega), decide_eq_false (show ¬ 0 ≤ lastT l (thr l i) i by omega)]; simp
    · rw [if_neg e, known _ (by omega), decide_eq_true (show 0 ≤ lastT l (thr l i) i by omega), Bool.true_and]
      congr 1
      rw [decide_eq_decide]
      omega
  have hSk : srcA l i < 0 ∨ decide (rd (ck n l k) (thr l k : Int) ≤ rd (ck n l (srcA l i).toNat) (thr l k : Int)) = (decide ((k : Int) = srcA l i) || (decide (0 ≤ srcA l i) && tb n l (srcA l i).toNat k)) := by
    by_cases e : srcA l i < 0
    · exact .inl e
    · refine .inr ?_
      rw [known _ (by omega), decide_eq_true (show 0 ≤ srcA l i by omega), Bool.true_and]
      congr 1
      rw [decide_eq_decide]
      omega
  have hlast := hI.last k hk _ htk
  rw [ck_pre (by omega) hk] at hlast
  have hL : tb n l i k = decide (rd (ck n l k) (thr l k : Int) ≤ rd (ck n l i) (thr l k : Int)) := by unfold tb; rw [decide_eq_true hk, Bool.true_and]; rfl
  rw [hL]
  have hgoal : decide (rd (ck n l k) (thr l k : Int) ≤ rd (ck n l i) (thr l k : Int)) = (decide (rd (ck n l k) (thr l k : Int) ≤ rd ((crun n.toNat (l.take i)).K.getD (thr l i) []) (thr l k : Int)) || (decide (0 ≤ srcA l i) && decide (rd (ck n l k) (thr l k : Int) ≤ rd (ck n l (srcA l i).toNat) (thr l k : Int)))) := by
    rw [Bool.eq_iff_iff]
    simp only [Bool.or_eq_true, Bool.and_eq_true, decide_eq_true_eq]
    by_cases e : thr l k = thr l i
    · have h3 : rd (ck n l k) (thr l k : Int) ≤ rd ((crun n.toNat (l.take i)).K.getD (thr l i) []) (thr l k : Int) := by rw [← e]; exact hlast
      refine ⟨fun _ => .inl h3, fun _ => ?_⟩
      rw [if_pos e] at h1
      omega
    · rw [if_neg e] at h1
      by_cases e2 : srcA l i < 0
      · rw [if_pos e2] at h1
        constructor
        · intro h4; exact .inl (by omega)
        · rintro (h4 | h4)
          · omega
          · omega
      · rw [if_neg e2] at h1
        constructor
        · intro h4
          by_cases e3 : rd (ck n l k) (thr l k : Int) ≤ rd (ck n l (srcA l i).toNat) (thr l k : Int)
          · exact .inr ⟨by omega, e3⟩
          · exact .inl (by omega)
        · rintro (h4 | h4)
          · omega
          · omega
  rw [hgoal, hKk]
  by_cases e5 : srcA l i < 0
  · rw [decide_eq_false (show ¬ 0 ≤ srcA l i by omega), decide_eq_false (show ¬ (k : Int) = srcA l i by omega)]
    simp
  · rcases hSk with e | e
    · exact absurd e e5
    · rw [e, decide_eq_true (show 0 ≤ srcA l i by omega), Bool.true_and, Bool.true_and]
      cases decide ((k : Int) = lastT l (thr l i) i) <;> cases decide ((k : Int) = srcA l i) <;> cases (decide (0 ≤ lastT l (thr l i) i) && tb n l (lastT l (thr l i) i).toNat k) <;> rfl

/-! The reference's functions, told. -/
theorem right_tot2_loop {n : Int} {l : List S33} (hl : l.length < 9223372036854775807) (d : Nat) : ∀ (k i : Nat) (ok : Bool), i + d = l.length → d < k → sakiaref13_Right.l0 k n l ok i = some (ok && (l.drop i).all (okA n)) := by
  induction d with
  | zero =>
    intro k i ok hi hk
    obtain ⟨k, rfl⟩ : ∃ m, k = m + 1 := ⟨k - 1, by omega⟩
    simp only [sakiaref13_Right.l0]
    rw [if_neg (show ¬ (i : Int) < (l.length : Int) by omega), List.drop_of_length_le (by omega)]
    simp
  | succ d ih =>
    intro k i ok hi hk
    obtain ⟨k, rfl⟩ : ∃ m, k = m + 1 := ⟨k - 1, by omega⟩
    simp only [sakiaref13_Right.l0]
    rw [if_pos (show (i : Int) < (l.length : Int) by omega), if_pos (show (0 : Int) ≤ (i : Int) by omega), T33_drop l i (by omega), List.all_cons, wrap_succ i (by omega)]
    have hR := fun o => ih k (i + 1) o (by omega) (by omega)
    generalize (List.drop (i + 1) l).all (okA n) = R at *
    generalize rd_T33 l (i : Int) = a
    unfold okA
    rw [hR, hR]
    cases ok with
    | false => simp
    | true =>
      rw [if_pos rfl]
      by_cases c1 : a.f0 ≥ 0
      · rw [if_pos c1, decide_eq_true (show 0 ≤ a.f0 by omega)]
        by_cases c2 : a.f0 < n
        · rw [if_pos c2, decide_eq_true c2]
          by_cases c3 : a.f1 > 0
          · rw [if_pos c3, decide_eq_true (show 1 ≤ a.f1 by omega)]
            by_cases c4 : a.f1 < 8
            · rw [if_pos c4, decide_eq_true (show a.f1 ≤ 7 by omega)]
              simp
            · rw [if_neg c4, decide_eq_false (show ¬ a.f1 ≤ 7 by omega)]; simp
          · rw [if_neg c3, decide_eq_false (show ¬ 1 ≤ a.f1 by omega)]; simp
        · rw [if_neg c2, decide_eq_false c2]; simp
      · rw [if_neg c1, decide_eq_false (show ¬ 0 ≤ a.f0 by omega)]; simp
theorem right_tot2 {n : Int} {l : List S33} {k : Nat} (hl : l.length < 9223372036854775807) (hk : l.length + 1 < k) : sakiaref13_Right.f k n l = some (rightB n l) := by
  obtain ⟨k, rfl⟩ : ∃ m, k = m + 1 := ⟨k - 1, by omega⟩
  have h := fun o => right_tot2_loop (n := n) hl l.length k 0 o (by omega) (by omega)
  unfold sakiaref13_Right.f rightB
  simp only [sakiaref13_Right.j0]
  rw [show ((0 : Nat) : Int) = 0 from rfl] at h
  rw [h, h, List.drop_zero]
  by_cases h1 : n > 0
  · rw [if_pos h1, decide_eq_true (show 1 ≤ n by omega), Bool.true_and]
    congr 2
    rw [decide_eq_decide]
    omega
  · rw [if_neg h1, decide_eq_false (show ¬ 1 ≤ n by omega)]; simp
theorem ahead_loop {n : Int} {l : List S33} (h : rightB n l = true) (hl : l.length ≤ 1000000) {i : Nat} (hi : i < l.length) (d : Nat) : ∀ (k m : Nat), m + d = i → d < k → sakiaref13_ahead.l0 k l i (lastT l (thr l i) m) m = some (lastT l (thr l i) i) := by
  have hp := (rightB_parts h).2.2
  have hpi := hp i hi
  induction d with
  | zero =>
    intro k m hm hk
    obtain ⟨k, rfl⟩ : ∃ m, k = m + 1 := ⟨k - 1, by omega⟩
    obtain rfl : m = i := by omega
    simp only [sakiaref13_ahead.l0]
    first | rw [if_neg (Int.lt_irrefl _)] | simp
  | succ d ih =>
    intro k m hm hk
    obtain ⟨k, rfl⟩ : ∃ m, k = m + 1 := ⟨k - 1, by omega⟩
    have hpm := hp m (by omega)
    simp only [sakiaref13_ahead.l0]
    rw [if_pos (show (m : Int) < (i : Int) by omega), if_pos (show (0 : Int) ≤ (m : Int) by omega), if_pos (show (m : Int) < (l.length : Int) by omega), if_pos (show (0 : Int) ≤ (i : Int) by omega), if_pos (show (i : Int) < (l.length : Int) by omega), wrap_succ m (by omega)]
    by_cases e : thr l m = thr l i
    · have e2 : lastT l (thr l i) (m + 1) = (m : Int) := by
        show (if _ then _ else _) = _
        rw [if_pos e]
      rw [if_pos (by unfold thr at e; omega)]
      have := ih k (m + 1) (by omega) (by omega)
      rwa [e2] at this
    · have e2 : lastT l (thr l i) (m + 1) = lastT l (thr l i) m := by
        show (if _ then _ else _) = _
        rw [if_neg e]
      rw [if_neg (fun e3 => e (by unfold thr; rw [e3]))]
      have := ih k (m + 1) (by omega) (by omega)
      rwa [e2] at this
theorem ahead_tot {n : Int} {l : List S33} (h : rightB n l = true) (hl : l.length ≤ 1000000) {i k : Nat} (hi : i < l.length) (hk : l.length + 1 < k) : sakiaref13_ahead.f k l i = some (lastT l (thr l i) i) := by
  unfold sakiaref13_ahead.f
  exact ahead_loop h hl hi i k 0 (by omega) (by omega)
theorem atom_plain {k : Int} (h : atomB k = true) : plainK k = false := by
  simp only [atomB, Bool.and_eq_true, decide_eq_true_eq] at h
  simp only [plainK, Bool.or_eq_false_iff, decide_eq_false_iff_not]
  omega
theorem srcG_is (l : List S33) (b : S33) (hb : atomB b.f1 = true) : ∀ i, srcG l b i = lastW l b.f2 i := by
  intro i
  induction i with
  | zero => rfl
  | succ i ih =>
    unfold srcG lastW
    rw [ih]
    generalize rd_T33 l (i : Int) = a
    have e : srcM a b = true ↔ ((atomB a.f1 && wrB a.f1) = true ∧ b.f2 = a.f2) := by
      unfold srcM
      rw [hb, atom_plain hb]
      simp only [Bool.and_eq_true, decide_eq_true_eq, beq_iff_eq]
      constructor
      · rintro ⟨⟨⟨h1, h2⟩, _⟩, h4⟩
        exact ⟨⟨h4, h2⟩, h1.symm⟩
      · rintro ⟨⟨h1, h2⟩, h3⟩
        exact ⟨⟨⟨h3.symm, h2⟩, atom_plain h1⟩, h1⟩
    by_cases c : srcM a b = true
    · rw [if_pos c, if_pos (e.1 c)]
    · rw [if_neg c, if_neg (fun h => c (e.2 h))]
theorem source_tot (l : List S33) {i : Nat} (hi : i < l.length) (ha : atomB (rd_T33 l (i : Int)).f1 = true) : sakiaref13_Source.f l i = some (srcA l i) := by
  unfold sakiaref13_Source.f srcA
  rw [if_neg (by omega), if_neg (by omega), if_pos ha]
  by_cases hr : rdB (rd_T33 l (i : Int)).f1 = true
  · rw [if_pos hr, if_pos hr, srcG_is l _ ha, Int.toNat_natCast]
  · rw [if_neg hr, if_neg hr]
/-- a row of the table: the first m places told -/
def rowU (n : Int) (l : List S33) (i m : Nat) : List Bool := (List.range l.length).map fun k => decide (k < m) && tb n l i k
theorem rowU_len (n : Int) (l : List S33) (i m : Nat) : (rowU n l i m).length = l.length := by simp [rowU]
theorem rowU_rd (n : Int) (l : List S33) (i m k : Nat) (hk : k < l.length) : rdOf false (rowU n l i m) (k : Int) = (decide (k < m) && tb n l i k) := by
  unfold rdOf rowU
  rw [Int.toNat_natCast, List.getD_eq_getElem?_getD, List.getElem?_map, List.getElem?_range hk]
  rfl
theorem rowU_zero (n : Int) (l : List S33) (i : Nat) : rowU n l i 0 = List.replicate l.length false := by
  apply List.ext_getElem
  · simp [rowU]
  · intro j h1 h2; simp [rowU]
theorem rowU_set (n : Int) (l : List S33) (i m : Nat) (hm : m < l.length) : (rowU n l i m).set m (tb n l i m) = rowU n l i (m + 1) := by
  apply List.ext_getElem
  · simp [rowU]
  · intro j h1 h2
    rw [List.getElem_set]
    by_cases e : m = j
    · subst e; simp [rowU]
    · rw [if_neg e]
      simp only [rowU, List.getElem_map, List.getElem_range]
      congr 1
      rw [decide_eq_decide]
      omega
def rowT (n : Int) (l : List S33) (i : Nat) : List Bool := rowU n l i l.length
theorem rowT_rd (n : Int) (l : List S33) (i k : Nat) (hk : k < l.length) : rdOf false (rowT n l i) (k : Int) = tb n l i k := by
  unfold rowT
  rw [rowU_rd n l i _ k hk, decide_eq_true hk, Bool.true_and]
theorem rowU_full (n : Int) (l : List S33) (i : Nat) : rowU n l i i = rowT n l i := by
  unfold rowT rowU
  apply List.map_congr_left
  intro k hk
  have := List.mem_range.1 hk
  rw [decide_eq_true this, Bool.true_and]
  by_cases e : k < i
  · rw [decide_eq_true e, Bool.true_and]
  · unfold tb
    rw [decide_eq_false e]; rfl
def tabT (n : Int) (l : List S33) (i : Nat) : List (List Bool) := (List.range i).map (rowT n l)
theorem tabT_len (n : Int) (l : List S33) (i : Nat) : (tabT n l i).length = i := by simp [tabT]
theorem tabT_rd (n : Int) (l : List S33) (i j : Nat) (hj : j < i) : rd_L5 (tabT n l i) (j : Int) = rowT n l j := by
  unfold rd_L5 tabT
  rw [Int.toNat_natCast, List.getD_eq_getElem?_getD, List.getElem?_map, List.getElem?_range hj]
  rfl
theorem tabT_succ (n : Int) (l : List S33) (i : Nat) : tabT n l i ++ [rowT n l i] = tabT n l (i + 1) := by
  unfold tabT
  rw [List.range_succ, List.map_append]
  rfl
/-- one place of a row -/
theorem l1_step {n : Int} {l : List S33} (hl : l.length ≤ 1000000) {i m k : Nat} {p s : Int} (hi : i < l.length) (hm : m < i) (hp : p < i) (hs : s < i) (hp0 : -1 ≤ p) (hs0 : -1 ≤ s)
    (hv : tb n l i m = (decide ((m : Int) = p) || decide ((m : Int) = s) || (decide (0 ≤ p) && tb n l p.toNat m) || (decide (0 ≤ s) && tb n l s.toNat m))) :
    sakiaref13_Table.l1 (k + 1) l (tabT n l i) i (rowU n l i m) p s m = sakiaref13_Table.l1 k l (tabT n l i) i (rowU n l i (m + 1)) p s ((m + 1 : Nat) : Int) := by
  have hset := rowU_set n l i m (by omega)
  have hrow : ∀ q : Int, 0 ≤ q → q < i → rd_L5 (tabT n l i) q = rowT n l q.toNat := fun q h1 h2 => by
    have := tabT_rd n l i q.toNat (by omega)
    rwa [Int.toNat_of_nonneg h1] at this
  simp only [sakiaref13_Table.l1]
  rw [if_pos (show (m : Int) < (i : Int) by omega), wrap_succ m (by omega), rowU_len, tabT_len, Int.toNat_natCast]
  by_cases e1 : (m : Int) = p
  · rw [decide_eq_true e1] at hv
    simp only [Bool.true_or] at hv
    rw [hv] at hset
    rw [if_pos e1, if_pos (show (0 : Int) ≤ (m : Int) by omega), if_pos (show (m : Int) < (l.length : Int) by omega), hset]
  rw [if_neg e1]
  rw [decide_eq_false e1, Bool.false_or] at hv
  by_cases e2 : (m : Int) = s
  · rw [decide_eq_true e2] at hv
    simp only [Bool.true_or] at hv
    rw [hv] at hset
    rw [if_pos e2, if_pos (show (0 : Int) ≤ (m : Int) by omega), if_pos (show (m : Int) < (l.length : Int) by omega), hset]
  rw [if_neg e2]
  rw [decide_eq_false e2, Bool.false_or] at hv
  by_cases e3 : p ≥ 0
  · rw [decide_eq_true (show 0 ≤ p by omega), Bool.true_and] at hv
    rw [if_pos e3, if_pos (show 0 ≤ p by omega), if_pos (show p < (i : Int) by omega), if_pos (show (0 : Int) ≤ (m : Int) by omega), hrow p (by omega) hp]
    rw [show (rowT n l p.toNat).length = l.length from rowU_len _ _ _ _, if_pos (show (m : Int) < (l.length : Int) by omega), rowT_rd _ _ _ _ (by omega)]
    by_cases e4 : tb n l p.toNat m = true
    · rw [e4, Bool.true_or] at hv
      rw [hv] at hset
      rw [if_pos e4, if_pos (show (m : Int) < (l.length : Int) by omega), hset]
    · rw [if_neg e4]
      rw [Bool.eq_false_iff.2 e4, Bool.false_or] at hv
      by_cases e5 : s ≥ 0
      · rw [decide_eq_true (show 0 ≤ s by omega), Bool.true_and] at hv
        rw [if_pos e5, if_pos (show 0 ≤ s by omega), if_pos (show s < (i : Int) by omega), hrow s (by omega) hs]
        rw [show (rowT n l s.toNat).length = l.length from rowU_len _ _ _ _, if_pos (show (m : Int) < (l.length : Int) by omega), if_pos (show (m : Int) < (l.length : Int) by omega), rowT_rd _ _ _ _ (by omega), ← hv, hset]
      · rw [decide_eq_false (show ¬ 0 ≤ s by omega), Bool.false_and] at hv
        rw [hv] at hset
        rw [if_neg e5, if_pos (show (m : Int) < (l.length : Int) by omega), hset]
  · rw [decide_eq_false (show ¬ 0 ≤ p by omega), Bool.false_and, Bool.false_or] at hv
    rw [if_neg e3]
    by_cases e5 : s ≥ 0
    · rw [decide_eq_true (show 0 ≤ s by omega), Bool.true_and] at hv
      rw [if_pos e5, if_pos (show 0 ≤ s by omega), if_pos (show s < (i : Int) by omega), if_pos (show (0 : Int) ≤ (m : Int) by omega), hrow s (by omega) hs]
      rw [show (rowT n l s.toNat).length = l.length from rowU_len _ _ _ _, if_pos (show (m : Int) < (l.length : Int) by omega), if_pos (show (m : Int) < (l.length : Int) by omega), rowT_rd _ _ _ _ (by omega), ← hv, hset]
    · rw [decide_eq_false (show ¬ 0 ≤ s by omega), Bool.false_and] at hv
      rw [hv] at hset
      rw [if_neg e5, if_pos (show (0 : Int) ≤ (m : Int) by omega), if_pos (show (m : Int) < (l.length : Int) by omega), hset]
theorem l1_row {n : Int} {l : List S33} (h : rightB n l = true) (hl : l.length ≤ 1000000) {i : Nat} (hi : i < l.length) (d : Nat) : ∀ (k m : Nat), m + d = i → sakiaref13_Table.l1 (k + 1 + d) l (tabT n l i) i (rowU n l i m) (lastT l (thr l i) i) (srcA l i) m = sakiaref13_Table.l0 k l (tabT n l (i + 1)) ((i + 1 : Nat) : Int) := by
  have b1 := lastT_bound l (thr l i) i
  have b2 := srcA_bound l i
  induction d with
  | zero =>
    intro k m hm
    obtain rfl : m = i := by omega
    simp only [Nat.add_zero, sakiaref13_Table.l1]
    rw [rowU_full, tabT_len, wrap_succ m (by omega), tabT_succ]
    first | rw [if_neg (Int.lt_irrefl _), if_pos (by omega)] | (simp; omega)
  | succ d ih =>
    intro k m hm
    rw [show k + 1 + (d + 1) = (k + 1 + d) + 1 by omega, l1_step hl hi (by omega) b1.2 b2.2 b1.1 b2.1 (tb_row h hl hi (by omega))]
    exact ih k (m + 1) (by omega)
/-- rounds that the table takes from row i on -/
def tabK (L : Nat) : Nat → Nat
  | 0 => L + 10
  | d + 1 => tabK L d + 2 * L + 10
theorem l0_tab {n : Int} {l : List S33} (h : rightB n l = true) (hl : l.length ≤ 1000000) (d : Nat) : ∀ (k i : Nat), i + d = l.length → tabK l.length d ≤ k → sakiaref13_Table.l0 k l (tabT n l i) i = some (tabT n l l.length) := by
  induction d with
  | zero =>
    intro k i hi hk
    obtain ⟨k, rfl⟩ : ∃ m, k = m + 1 := ⟨k - 1, by unfold tabK at hk; omega⟩
    obtain rfl : i = l.length := by omega
    simp only [sakiaref13_Table.l0]
    first | rw [if_neg (Int.lt_irrefl _)] | simp
  | succ d ih =>
    intro k i hi hk
    have hi2 : i < l.length := by omega
    unfold tabK at hk
    have hkk : l.length + 10 ≤ tabK l.length d := by
      clear ih hk hi
      induction d with
      | zero => exact Nat.le_refl _
      | succ d ih => unfold tabK; omega
    obtain ⟨k, rfl⟩ : ∃ m, k = m + 1 + i + 1 + 1 := ⟨k - 3 - i, by omega⟩
    simp only [sakiaref13_Table.l0]
    have hat := source_tot l hi2
    rw [if_pos (show (i : Int) < (l.length : Int) by omega), if_pos (show (0 : Int) ≤ (l.length : Int) by omega), Int.toNat_natCast, if_pos (by omega), Option.bind_some, ahead_tot h hl hi2 (by omega), Option.bind_some, if_pos (show (0 : Int) ≤ (i : Int) by omega), atom_is2, Option.bind_some, ← rowU_zero n l i]
    have hfin : sakiaref13_Table.j1 (k + 1 + i + 1) l (tabT n l i) i (rowU n l i 0) (lastT l (thr l i) i) (srcA l i) = some (tabT n l l.length) := by
      simp only [sakiaref13_Table.j1]
      have := l1_row h hl hi2 i k 0 (by omega)
      rw [show ((0 : Nat) : Int) = 0 from rfl] at this
      rw [this]
      exact ih k (i + 1) (by omega) (by omega)
    by_cases e : atomB (rd_T33 l (i : Int)).f1 = true
    · rw [if_pos e, hat e, Option.bind_some]
      exact hfin
    · rw [if_neg e]
      have : srcA l i = -1 := by unfold srcA; rw [if_neg e]
      rw [this] at hfin
      exact hfin
theorem tabK_bound (L : Nat) : ∀ d, d ≤ 150 → L ≤ 150 → tabK L d ≤ 160 + 310 * d := by
  intro d
  induction d with
  | zero => intro _ _; unfold tabK; omega
  | succ d ih => intro h1 h2; have := ih (by omega) h2; unfold tabK; omega
theorem table_tot {n : Int} {l : List S33} (h : rightB n l = true) (hl : l.length ≤ 150) {k : Nat} (hk : 50000 ≤ k) : sakiaref13_Table.f k l = some (tabT n l l.length) := by
  unfold sakiaref13_Table.f
  have := tabK_bound l.length l.length hl hl
  exact l0_tab h (by omega) l.length k 0 (by omega) (by omega)

/-! Which two race first. -/
def clashB (x y : S33) : Bool := plainK x.f1 && plainK y.f1 && decide (x.f2 = y.f2) && decide (x.f0 ≠ y.f0) && (wrB x.f1 || wrB y.f1)
theorem clash_is (x y : S33) : order_Race.clash x y = some (clashB x y) := by
  unfold order_Race.clash order_clash.f clashB
  rw [plain_is, plain_is, Option.bind_some, Option.bind_some, wr_is, wr_is, Option.bind_some, Option.bind_some]
  cases plainK x.f1 with
  | false => simp
  | true =>
    cases plainK y.f1 with
    | false => simp
    | true =>
      simp only [if_true, Bool.true_and]
      by_cases e : x.f2 = y.f2
      · rw [if_pos e, decide_eq_true e, Bool.true_and]
        by_cases e2 : x.f0 = y.f0
        · rw [if_pos e2, decide_eq_false (show ¬ x.f0 ≠ y.f0 from fun h => h e2)]; simp
        · rw [if_neg e2, decide_eq_true (show x.f0 ≠ y.f0 from e2), Bool.true_and]
          cases wrB x.f1 <;> simp
      · rw [if_neg e, decide_eq_false e]; simp
theorem plain_wr {k : Int} (h : plainK k = true) : wrB k = (k == 7) := by
  simp only [plainK, Bool.or_eq_true, decide_eq_true_eq] at h
  rcases h with rfl | rfl <;> rfl
theorem clash_is2 (x y : S33) : sakiaref13_Clash.f x.f0 x.f1 x.f2 x.f3 x.f4 y.f0 y.f1 y.f2 y.f3 y.f4 = some (clashB x y) := by
  unfold sakiaref13_Clash.f clashB
  rw [plain_is2, plain_is2, Option.bind_some, Option.bind_some]
  cases hx : plainK x.f1 with
  | false => simp
  | true =>
    cases hy : plainK y.f1 with
    | false => simp
    | true =>
      rw [plain_wr hx, plain_wr hy]
      simp only [if_true, Bool.true_and]
      by_cases e : x.f2 = y.f2
      · rw [if_pos e, decide_eq_true e, Bool.true_and]
        by_cases e2 : x.f0 = y.f0
        · rw [if_pos e2, decide_eq_false (show ¬ x.f0 ≠ y.f0 from fun h => h e2)]; simp
        · rw [if_neg e2, decide_eq_true (show x.f0 ≠ y.f0 from e2), Bool.true_and]
          by_cases e3 : x.f1 = 7
          · rw [if_pos e3]; simp [e3]
          · rw [if_neg e3, beq_eq_false_iff_ne.2 e3, Bool.false_or]
      · rw [if_neg e, decide_eq_false e]; simp
/-- j races with i, a later one -/
def bad (n : Int) (l : List S33) (i j : Nat) : Bool := clashB (rd_T33 l (j : Int)) (rd_T33 l (i : Int)) && !kn n l i j
def fnd (n : Int) (l : List S33) (i : Nat) : Option Nat := (List.range i).find? (bad n l i)
def first (n : Int) (l : List S33) : Nat → Nat → Option (Nat × Nat)
  | 0, _ => none
  | d + 1, i => match fnd n l i with
    | some j => some (j, i)
    | none => first n l d (i + 1)
theorem scan_append (k : Nat) (l : List S33) (O : List (List Int)) (i : Nat) (b : List Int) : ∀ a, order_Race.scan k l O i (a ++ b) = (order_Race.scan k l O i a).bind fun s => match s with
    | some j => some (some j)
    | none => order_Race.scan k l O i b := by
  intro a
  induction a with
  | nil => rfl
  | cons j a ih =>
    have hs : ∀ x xs, order_Race.scan k l O i (x :: xs) = (order_Race.clash (rd_T33 l x) (rd_T33 l (i : Int))).bind fun c => if c = true then ((order_behind.f k l O (i : Int) x).bind fun b => if b = true then order_Race.scan k l O i xs else some (some x)) else order_Race.scan k l O i xs := fun _ _ => rfl
    rw [List.cons_append, hs, hs, ih]
    cases order_Race.clash (rd_T33 l j) (rd_T33 l (i : Int)) with
    | none => rfl
    | some c =>
      simp only [Option.bind_some]
      cases c with
      | false => simp only [Bool.false_eq_true, if_false]
      | true =>
        simp only [if_true]
        cases order_behind.f k l O (i : Int) j with
        | none => rfl
        | some b2 =>
          simp only [Option.bind_some]
          cases b2 with
          | true => simp only [if_true]
          | false => simp only [Bool.false_eq_true, if_false, Option.bind_some]
theorem scan_tch {n : Int} {l : List S33} (h : rightB n l = true) (hl : l.length ≤ 1000000) {i k : Nat} (hk : 20 ≤ k) (hi : i < l.length) : ∀ m, m ≤ i →
    order_Race.scan k l (crun n.toNat l).O i (tch l m (rd_T33 l (i : Int)).f2) = some (((List.range m).find? (bad n l i)).map fun j => (j : Int)) := by
  intro m
  induction m with
  | zero => intro _; rfl
  | succ m ih =>
    intro hm
    rw [List.range_succ, List.find?_append]
    unfold tch
    have hb := behind_tot (k := k) h hl hk hi (show m < l.length by omega)
    by_cases c : ((rd_T33 l (m : Int)).f1 = 6 ∨ (rd_T33 l (m : Int)).f1 = 7) ∧ (rd_T33 l (i : Int)).f2 = (rd_T33 l (m : Int)).f2
    · rw [if_pos c, scan_append, ih (by omega), Option.bind_some]
      cases hf : (List.range m).find? (bad n l i) with
      | some j => simp
      | none =>
        simp only [Option.map_none, Option.none_or]
        unfold order_Race.scan
        rw [clash_is, Option.bind_some, hb, Option.bind_some]
        unfold order_Race.scan
        simp only [List.find?_cons, List.find?_nil, bad]
        cases clashB (rd_T33 l (m : Int)) (rd_T33 l (i : Int)) with
        | false => simp
        | true => cases kn n l i m <;> simp
    · rw [if_neg c, ih (by omega)]
      have e : bad n l i m = false := by
        unfold bad clashB
        by_cases c1 : plainK (rd_T33 l (m : Int)).f1 = true
        · have : ¬ (rd_T33 l (m : Int)).f2 = (rd_T33 l (i : Int)).f2 := fun e => c ⟨(plainK_iff _).1 c1, e.symm⟩
          rw [decide_eq_false this]; simp
        · rw [Bool.eq_false_iff.2 c1]; simp
      simp only [List.find?_cons, List.find?_nil, e, Bool.false_eq_true, if_false, Option.or_none]
theorem fnd_plain {n : Int} {l : List S33} {i : Nat} (h : ¬ ((rd_T33 l (i : Int)).f1 = 6 ∨ (rd_T33 l (i : Int)).f1 = 7)) : fnd n l i = none := by
  unfold fnd
  rw [List.find?_eq_none]
  intro j _
  have : plainK (rd_T33 l (i : Int)).f1 = false := Bool.eq_false_iff.2 (fun e => h ((plainK_iff _).1 e))
  unfold bad clashB
  rw [this]
  simp
def told (f : Option (Nat × Nat)) : Int × Int × Bool := match f with
  | some (j, i) => ((j : Int), (i : Int), true)
  | none => (0, 0, false)
theorem go_first {n : Int} {l : List S33} (h : rightB n l = true) (hl : l.length ≤ 1000000) {k : Nat} (hk : 20 ≤ k) : ∀ d i, i + d = l.length → order_Race.go k l (crun n.toNat l).O d i = some (told (first n l d i)) := by
  intro d
  induction d with
  | zero => intro i _; rfl
  | succ d ih =>
    intro i hi
    unfold order_Race.go first
    by_cases c : (rd_T33 l (i : Int)).f1 = 6 ∨ (rd_T33 l (i : Int)).f1 = 7
    · rw [if_pos c, scan_tch h hl hk (by omega) i (Nat.le_refl _), Option.bind_some]
      show _ = some (told (match fnd n l i with | some j => some (j, i) | none => first n l d (i + 1)))
      unfold fnd
      cases (List.range i).find? (bad n l i) with
      | some j => rfl
      | none => exact ih (i + 1) (by omega)
    · rw [if_neg c, fnd_plain c]
      exact ih (i + 1) (by omega)
theorem race_tot {n : Int} {l : List S33} (hl : l.length ≤ 1000000) {k : Nat} (hk : 30 ≤ k) (hk2 : l.length + 10 < k) (hw : ∀ x ∈ l, x.f2 < 9223372036854775808) : order_Race.f k n l = some (if rightB n l = true then told (first n l l.length 0) else (0, 0, false)) := by
  unfold order_Race.f
  cases hr : rightB n l with
  | false => rw [clocks_not hr hl (by omega), Option.bind_some, if_pos rfl, if_neg (by decide)]
  | true =>
    rw [clocks_tot hr hl (by omega) (by omega) hw, Option.bind_some, if_pos rfl]
    by_cases hO : (crun n.toNat l).O = []
    · rw [if_pos hO]
      have : l.length = 0 := by rw [← crun_O n.toNat l, hO]; rfl
      rw [this]
      rfl
    · rw [if_neg hO, if_pos, if_pos (by omega), go_first hr hl (by omega) l.length 0 (by omega)]
      rw [List.all_eq_true]
      intro x hx
      obtain ⟨i, hi, rfl⟩ := List.mem_iff_getElem.1 hx
      have := (rightB_parts hr).2.2 i hi
      rw [← T33_get _ i hi] at this
      have h2 := hw _ (List.getElem_mem hi)
      simp only [Bool.and_eq_true, decide_eq_true_eq]
      omega
def told2 (f : Option (Nat × Nat)) : Int × Int := match f with
  | some (j, i) => ((j : Int), (i : Int))
  | none => (-1, -1)
theorem ref_l1 {n : Int} {l : List S33} (h : rightB n l = true) (hl : l.length ≤ 1000000) {i : Nat} (hi : i < l.length) (d : Nat) : ∀ (k m : Nat), m + d = i → sakiaref13_Race.l1 (k + 1 + d) l (tabT n l l.length) i m = (match (List.range' m d).find? (bad n l i) with
    | some j => some ((j : Int), (i : Int))
    | none => sakiaref13_Race.l0 k l (tabT n l l.length) ((i + 1 : Nat) : Int)) := by
  induction d with
  | zero =>
    intro k m hm
    obtain rfl : m = i := by omega
    simp only [Nat.add_zero, sakiaref13_Race.l1]
    rw [wrap_succ m (by omega)]
    first | rw [if_neg (Int.lt_irrefl _)] | simp
    rfl
  | succ d ih =>
    intro k m hm
    have hn := ih k (m + 1) (by omega)
    rw [show k + 1 + (d + 1) = (k + 1 + d) + 1 by omega, List.range'_succ, List.find?_cons]
    simp only [sakiaref13_Race.l1]
    rw [if_pos (show (m : Int) < (i : Int) by omega), if_pos (show (0 : Int) ≤ (m : Int) by omega), if_pos (show (m : Int) < (l.length : Int) by omega), if_pos (show (0 : Int) ≤ (i : Int) by omega), if_pos (show (i : Int) < (l.length : Int) by omega), clash_is2, Option.bind_some, wrap_succ m (by omega), hn, tabT_len, tabT_rd n l _ i hi, rowT_rd n l i m (by omega)]
    rw [show (rowT n l i).length = l.length from rowU_len _ _ _ _, if_pos (show (i : Int) < (l.length : Int) by omega), if_pos (show (m : Int) < (l.length : Int) by omega)]
    have e : tb n l i m = kn n l i m := by unfold tb; rw [decide_eq_true (show m < i by omega), Bool.true_and]
    rw [e]
    unfold bad
    cases clashB (rd_T33 l (m : Int)) (rd_T33 l (i : Int)) with
    | false => simp
    | true => cases kn n l i m <;> simp
def refK (L : Nat) : Nat → Nat
  | 0 => 10
  | d + 1 => refK L d + L + 10
theorem ref_l0 {n : Int} {l : List S33} (h : rightB n l = true) (hl : l.length ≤ 1000000) (d : Nat) : ∀ (k i : Nat), i + d = l.length → refK l.length d ≤ k → sakiaref13_Race.l0 k l (tabT n l l.length) i = some (told2 (first n l d i)) := by
  induction d with
  | zero =>
    intro k i hi hk
    obtain ⟨k, rfl⟩ : ∃ m, k = m + 1 := ⟨k - 1, by unfold refK at hk; omega⟩
    obtain rfl : i = l.length := by omega
    simp only [sakiaref13_Race.l0]
    first | rw [if_neg (Int.lt_irrefl _)] | simp
    rfl
  | succ d ih =>
    intro k i hi hk
    unfold refK at hk
    obtain ⟨k, rfl⟩ : ∃ m, k = m + 1 + i + 1 := ⟨k - 2 - i, by omega⟩
    simp only [sakiaref13_Race.l0]
    have := ref_l1 h hl (show i < l.length by omega) i k 0 (by omega)
    rw [show ((0 : Nat) : Int) = 0 from rfl] at this
    rw [if_pos (show (i : Int) < (l.length : Int) by omega), this]
    unfold first fnd
    rw [List.range_eq_range']
    cases (List.range' 0 i).find? (bad n l i) with
    | some j => rfl
    | none => exact ih k (i + 1) (by omega) (by omega)
theorem refK_bound (L : Nat) : ∀ d, L ≤ 150 → refK L d ≤ 10 + 160 * d := by
  intro d
  induction d with
  | zero => intro _; unfold refK; omega
  | succ d ih => intro h2; have := ih h2; unfold refK; omega
theorem ref_tot {n : Int} {l : List S33} (h : rightB n l = true) (hl : l.length ≤ 150) {k : Nat} (hk : 50000 ≤ k) : sakiaref13_Race.f k l = some (told2 (first n l l.length 0)) := by
  unfold sakiaref13_Race.f
  rw [table_tot h hl hk, Option.bind_some]
  have := refK_bound l.length l.length hl
  exact ref_l0 h (by omega) l.length k 0 (by omega) (by omega)

theorem live_tot : ∀ k, 100 ≤ k → sakialaw13_live.f k = some true := by
  intro k hk
  have h : sakialaw13_live.f 100 = some true := by kernel_rfl
  obtain ⟨d, rfl⟩ : ∃ d, k = 100 + d := ⟨k - 100, by omega⟩
  clear hk
  induction d with
  | zero => exact h
  | succ d ih => exact sakialaw13_live.mono _ _ ih

theorem OrderRaces : sakialaw13_OrderRaces.Pure := by
  intro n l wn hmax hsz hwf
  have hw : ∀ x ∈ l, x.f2 < 9223372036854775808 := by
    intro x hx
    have h := (hwf x hx).2.2.1
    have e2 : IntKind.i64.max = 9223372036854775807 := by decide
    simp only [Lit.wf, e2, Bool.and_eq_true, decide_eq_true_eq] at h
    omega
  refine ⟨100000, ?_⟩
  unfold sakialaw13_OrderRaces.f
  by_cases hl : (l.length : Int) > 150
  · rw [if_pos hl, live_tot 100000 (by omega)]; rfl
  rw [if_neg hl, race_tot (by omega) (by omega) (by omega) hw, Option.bind_some, right_tot2 (by omega) (by omega), Option.bind_some]
  cases hr : rightB n l with
  | false =>
    simp only [Bool.false_eq_true, if_false, if_true, live_tot 100000 (by omega), Option.bind_some]
  | true =>
    rw [if_pos rfl, if_pos rfl, ref_tot hr (by omega) (by omega), Option.bind_some, live_tot 100000 (by omega)]
    cases first n l l.length 0 with
    | none => rfl
    | some p =>
      obtain ⟨j, i⟩ := p
      show (if ((true : Bool) == decide ((j : Int) ≥ 0)) = true then (if (j : Int) = mx (j : Int) 0 then (if (i : Int) = mx (i : Int) 0 then _ else _) else _) else _) = _
      rw [decide_eq_true (show (j : Int) ≥ 0 by omega), if_pos (by decide), if_pos (by unfold mx; rw [if_neg (by omega)]), if_pos (by unfold mx; rw [if_neg (by omega)])]
      rfl


end Go.Proofs.Yteahmcfinijmdaa.Pure
