/- Lemmas: what functions of package pack compute, by hand. No conditions but those that the theorems name. -/
import Derived.Test.YtoobhpgkecplmaaRra
import Derived.WalkSmall
namespace Go.Proofs.Ytoobhpgkecplmaa.QPackReads
open Go Go.RowKit Go.Proofs.YtoobhpgkecplmaaW.PrintWords Go.Proofs.YtoobhpgkecplmaaW.PrintLast Go.Proofs.YtoobhpgkecplmaaW.PrintMore
attribute [local go_sem] max2_int min2_int max_two min_two max_three min_three max_four min_four
set_option linter.unusedVariables false
set_option linter.unusedSimpArgs false
def numsP : Nat → List Int → Except Int (List Int × List Int)
  | 0, l => .ok ([], l)
  | n + 1, l => match numP l with
    | .error e => .error e
    | .ok (x, l1) => match numsP n l1 with
      | .error e => .error e
      | .ok (xs, l2) => .ok (x :: xs, l2)
def finN (acc : List Int) : Except Int (List Int × List Int) → Except Int (List Int × List Int)
  | .error e => .error e
  | .ok (z, l) => .ok (acc ++ z, l)
theorem numsP_err : ∀ (n : Nat) {l : List Int} {e : Int}, numsP n l = .error e → e ≠ 0
  | 0, l, e, h => by cases h
  | n + 1, l, e, h => by
    simp only [numsP] at h
    split at h
    · rename_i he
      injection h with h
      subst h
      exact numP_err he
    · split at h
      · rename_i he
        injection h with h
        subst h
        exact numsP_err n he
      · cases h
theorem readN_nums (b : List Int) (c : Nat) : ∀ (a : Nat) (out : List Int), (∀ e, numsP c (b.drop a) = .error e → readN b c a out = ([], 0, e)) ∧ (∀ z r, numsP c (b.drop a) = .ok (z, r) → ∃ a' : Nat, readN b c a out = (out ++ z, (a' : Int), 0) ∧ r = b.drop a') := by
  induction c with
  | zero =>
    intro a out
    refine ⟨fun e h => by simp [numsP] at h, fun z r h => ?_⟩
    simp only [numsP, Except.ok.injEq, Prod.mk.injEq] at h
    obtain ⟨rfl, rfl⟩ := h
    exact ⟨a, by simp [readN], rfl⟩
  | succ c ih =>
    intro a out
    by_cases he : (getP (b.drop a)).2.2 = 0
    · have hn : numP (b.drop a) = .ok (zagI (getP (b.drop a)).1.toNat, b.drop (a + (getP (b.drop a)).2.1.toNat)) := by
        unfold numP wordP
        rw [if_pos he, List.drop_drop]
      obtain ⟨h1, h2⟩ := ih (a + (getP (b.drop a)).2.1.toNat) (out ++ [zagI (getP (b.drop a)).1.toNat])
      refine ⟨fun e h => ?_, fun z r h => ?_⟩
      · simp only [numsP, hn] at h
        simp only [readN]
        rw [if_pos he]
        split at h
        · rename_i e' h3
          injection h with h
          subst h
          exact h1 _ h3
        · cases h
      · simp only [numsP, hn] at h
        simp only [readN]
        rw [if_pos he]
        split at h
        · cases h
        · rename_i xs l2 h3
          simp only [Except.ok.injEq, Prod.mk.injEq] at h
          obtain ⟨rfl, rfl⟩ := h
          obtain ⟨a', h4, h5⟩ := h2 _ _ h3
          exact ⟨a', by rw [h4]; simp, h5⟩
    · have hn : numP (b.drop a) = .error (getP (b.drop a)).2.2 := by
        unfold numP wordP
        rw [if_neg he]
      refine ⟨fun e h => ?_, fun z r h => ?_⟩
      · simp only [numsP, hn, Except.error.injEq] at h
        simp only [readN]
        rw [if_neg he, h]
      · simp only [numsP, hn] at h
        cases h
theorem listP_eq {b : List Int} (hb : bytes b) : listP b = match manyP 256 b with | .error e => .error e | .ok (n, l1) => numsP n l1 := by
  by_cases he : (getP b).2.2 = 0
  · obtain ⟨y, hy, g1, g2, _, _⟩ := getP_step b hb he
    have hw : wordP b = .ok (y, b.drop (getP b).2.1.toNat) := by
      unfold wordP
      rw [if_pos he, g1]
      rfl
    have hm : manyP 256 b = if y > 256 then .error 21 else .ok (y, b.drop (getP b).2.1.toNat) := by
      unfold manyP
      rw [hw]
    have hr : readL b 256 = if y > 256 then ([], 0, 21) else readN b y (getP b).2.1.toNat [] := by
      unfold readL
      rw [if_pos he, g1]
      by_cases hc : y > 256
      · rw [if_pos (by omega), if_pos hc]
      · rw [if_neg (by omega), if_neg hc, Int.toNat_natCast]
    rw [hm]
    unfold listP
    rw [hr]
    by_cases hc : y > 256
    · rw [if_pos hc, if_pos hc]
      rfl
    · rw [if_neg hc, if_neg hc]
      obtain ⟨h1, h2⟩ := readN_nums b y (getP b).2.1.toNat []
      cases hn : numsP y (b.drop (getP b).2.1.toNat) with
      | error e =>
        rw [h1 e hn]
        simp only [hn]
        rw [if_neg (numsP_err y hn)]
      | ok q =>
        obtain ⟨z, r⟩ := q
        obtain ⟨a', h3, h4⟩ := h2 z r hn
        rw [h3]
        simp only [hn]
        rw [if_pos trivial, h4]
        simp
  · have hw : wordP b = .error (getP b).2.2 := by
      unfold wordP
      rw [if_neg he]
    have hr : readL b 256 = ([], 0, (getP b).2.2) := by
      unfold readL
      rw [if_neg he]
    unfold manyP
    rw [hw]
    unfold listP
    rw [hr]
    simp only
    rw [if_neg he]
theorem nums_err {n i : Nat} {acc l : List Int} {ee : Int} (h : i < n) (he : numP l = .error ee) : finN acc (numsP (n - i) l) = .error ee := by
  rw [show n - i = (n - i - 1) + 1 by omega]
  simp only [numsP, he, finN]
theorem nums_next {n i : Nat} {acc l l1 : List Int} {x : Int} (h : i < n) (he : numP l = .ok (x, l1)) : finN acc (numsP (n - i) l) = finN (acc ++ [x]) (numsP (n - (i + 1)) l1) := by
  rw [show n - i = (n - (i + 1)) + 1 by omega]
  simp only [numsP, he]
  cases numsP (n - (i + 1)) l1 with
  | error e => rfl
  | ok q =>
    obtain ⟨xs, r⟩ := q
    simp [finN]
/-- where a loop of reads stands: all is well so far, or the first error is kept -/
def Upto {β : Type} (e0 : Int) (well : Prop) (tot : Except Int β) (e : Int) : Prop := (e0 = 0 ∧ e = 0 ∧ well) ∨ (e0 = 0 ∧ e ≠ 0 ∧ tot = .error e) ∨ (e0 ≠ 0 ∧ e = e0)
set_option maxHeartbeats 8000000 in
set_option maxRecDepth 100000 in
theorem rrlist (gr : Nat) (l : List Int) (e0 : Int) (w0 W : World) (hR : Rs w0 gr W l e0) :
    Calls Try.prog 39 #[.pointer (some ⟨gr, 0, none⟩)] W fun e w' => KeepBut W w' gr none ∧ ∃ (x : List Int) (l' : List Int) (e' : Int) (v : Value), e = .returned v ∧ (Kd.int .i64).R 3 w' W.heap.size (fun _ => True) v x ∧ Rs w0 gr w' l' e' ∧ Rel listP l e0 x l' e' := by
  have HEQ := Aside0.mk (listP_eq (b := l) hR.ok)
  have HR := Aside0.mk hR
  have HGR := Aside0.mk hR.lt
  have HW0 := Aside0.mk (show w0.heap.size ≤ W.heap.size from hR.below.size)
  clear hR
  go_enter Try.func39, Try.ntmps39
  go_wp2_with (fail)
  go_at_call 38
  (refine (rrmany 256 (by decide) gr l e0 w0 _ HR.out).mono ?_)
  rintro e W1 ⟨hk, n, l1, e1, rfl, hn, hr, hrel⟩
  have HU := Aside0.mk (show Upto e0 (finN [] (numsP (n - 0) l1) = listP l) (listP l) e1 from by
    rcases hrel with ⟨h1, h2, h3⟩ | ⟨h1, h2, h3⟩ | h1
    · refine .inl ⟨h1, h2, ?_⟩
      rw [HEQ.out, h3, Nat.sub_zero]
      simp only
      cases numsP n l1 with
      | error e => rfl
      | ok q => rfl
    · exact .inr (.inl ⟨h1, h2, by rw [HEQ.out, h3]⟩)
    · exact .inr (.inr h1))
  have HK := Aside0.mk hk
  have HR1 := Aside0.mk hr
  have HN := Aside0.mk hn
  clear hk hr hrel HEQ HR
  go_wp2_with (fail)
  have HWS := Aside0.mk (show gr < W.heap.size ∧ W.heap.size ≤ W1.heap.size from ⟨HGR.out, HK.out.1⟩)
  go_loopg [3, 5] (n + 1) (fun kq v3 v5 wc => ∃ (i : Nat) (acc l' : List Int) (e' : Int), i ≤ n ∧ n < i + kq ∧ v5 = .int .i64 (i : Int) ∧ Aside0 (acc.length = i) ∧ Aside0 (KeepBut W wc gr none) ∧ Aside0 ((Kd.int .i64).R 3 wc W.heap.size (fun _ => True) v3 acc) ∧ Aside0 (Rs w0 gr wc l' e') ∧ Aside0 (Upto e0 (finN acc (numsP (n - i) l') = listP l) (listP l) e'))
  case atStart => exact ⟨0, [], l1, e1, by omega, by omega, rfl, ⟨rfl⟩, HK, ⟨Kd.R_nil _ _ _ _ _⟩, HR1, HU⟩
  case round =>
    clear HK HR1 HU
    obtain ⟨i, acc, l', e', hi, hik, rfl, HL, HK, HV, HR, HU⟩ := hrel
    cases gk with
    | zero => omega
    | succ g =>
    obtain ⟨hc1, hf1⟩ := HR.out.e1
    obtain ⟨A3, c3, rfl⟩ := Kd.R_slice HV.out
    by_cases hgo : i < n ∧ e' = 0
    · obtain ⟨hlt, rfl⟩ := hgo
      have c1b : decide ((i : Int) < (n : Int)) = true := decide_eq_true (by omega)
      go_wp2_with (fail)
      go_at_call 36
      (with_reducible refine (rrnum gr l' 0 w0 _ HR.out).mono ?_)
      rintro e W2 ⟨hk, x, l2, e2, rfl, hr, hrel⟩
      have HU2 := Aside0.mk (show Upto e0 (finN (acc ++ [x]) (numsP (n - (i + 1)) l2) = listP l) (listP l) e2 from by
        rcases HU.out with ⟨h1, _, h3⟩ | ⟨_, h2, _⟩ | ⟨h1, h2⟩
        · rcases hrel with ⟨_, k2, k3⟩ | ⟨_, k2, k3⟩ | ⟨k1, _⟩
          · exact .inl ⟨h1, k2, (nums_next hlt k3).symm.trans h3⟩
          · exact .inr (.inl ⟨h1, k2, h3.symm.trans (nums_err hlt k3)⟩)
          · exact absurd rfl k1
        · exact absurd rfl h2
        · exact absurd h2.symm h1)
      obtain ⟨A, c, hblk, _, _⟩ := HR.out.blk
      have HVa := Aside0.mk (Kd.R_mono (Kd.R_keep (Kd.R_types HV.out hblk (by decide)) hk (fun _ hk => hk.2)) (ok' := fun _ => True) (fun _ _ => trivial))
      have HK2 := Aside0.mk (keep_tr HK.out hk)
      have HR2 := Aside0.mk hr
      obtain ⟨A9, c9, hblk2, _, _⟩ := hr.blk
      have HBK := Aside0.mk hblk2
      have HWB := Aside0.mk (show W.heap.size ≤ W2.heap.size from HK2.out.1)
      have HLL := Aside0.mk (show (acc ++ [x]).length = i + 1 by rw [List.length_append, HL.out]; rfl)
      clear hblk hblk2 hk hr hrel HK HR HV HU hc1 hf1
      go_wp2_with (first | ((with_reducible refine gate_builtin (b := .append) (xs := #[.tmp 20, .tmp 23]) rfl ?_); at_builtin; refine Kd.R_append (Kd.int .i64) (w0 := W2) W.heap.size rfl (.tmp 20) (.tmp 23) 50 3 (.int .i64 0) 8 rfl Try.underlying50 info3 rfl (by decide) (by decide) (.slice A3 acc.length c3) acc x [.int .i64 x] (fun _ => True) (fun _ => False) rfl rfl rfl (fun _ hk => hk.elim) (fun _ _ => trivial) HVa.out (Below.refl _ _) HWB.out (by have := HL.out; have := HN.out; omega) ?_; intro v1 w1 hV1 hb1 hg1 hat1))
      go_roundg g
      case measure => omega
      case rel =>
        have hbase := fun k hk => Kd.R_base HVa.out k hk
        exact ⟨i + 1, acc ++ [x], l2, e2, by omega, by omega, by first | rfl | rw [wrap_succ i (by omega)], HLL, ⟨HK2.out.trans (KeepBut.of_grown hg1 gr) (by
          cases ho : (Value.slice A3 acc.length c3).ownBlock with
          | none => exact .inl rfl
          | some b => exact .inr ⟨b, rfl, hbase b ho⟩)⟩, ⟨hV1⟩, ⟨HR2.out.grown hg1 (fun k hk => ⟨by have := hbase k hk; have := HW0.out; omega, fun e => Kd.R_ne HVa.out HBK.out (by decide) (e ▸ hk.symm)⟩)⟩, HU2⟩
    · have c1b : e' = 0 → decide ((i : Int) < (n : Int)) = false := fun h => decide_eq_false (by omega)
      have hrel : Rel listP l e0 acc l' e' := by
        rcases HU.out with ⟨h1, h2, h3⟩ | h | h
        · have hi2 : n - i = 0 := by omega
          rw [hi2] at h3
          exact .inl ⟨h1, h2, by rw [← h3]; simp [numsP, finN]⟩
        · exact .inr (.inl h)
        · exact .inr (.inr h)
      have HE := Aside0.mk hrel
      clear hrel HU
      by_cases he : e' = 0
      · subst he
        have c2b : decide ((i : Int) < (n : Int)) = false := c1b rfl
        go_wp2_with (fail)
        go_ret
        exact ⟨HK.out, acc, l', 0, _, rfl, HV.out, HR.out, HE.out⟩
      · by_cases hlt : i < n
        · have c2b : decide ((i : Int) < (n : Int)) = true := decide_eq_true (by omega)
          go_wp2_with (fail)
          go_ret
          exact ⟨HK.out, acc, l', e', _, rfl, HV.out, HR.out, HE.out⟩
        · have c2b : decide ((i : Int) < (n : Int)) = false := decide_eq_false (by omega)
          go_wp2_with (fail)
          go_ret
          exact ⟨HK.out, acc, l', e', _, rfl, HV.out, HR.out, HE.out⟩
end Go.Proofs.Ytoobhpgkecplmaa.QPackReads
