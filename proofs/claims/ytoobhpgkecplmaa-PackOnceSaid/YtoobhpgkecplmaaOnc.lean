/- Lemmas: what functions of package pack compute, by hand. No conditions but those that the theorems name. -/
import Derived.Test.YtoobhpgkecplmaaBck
import Derived.WalkSmall
namespace Go.Proofs.Ytoobhpgkecplmaa.QPackBack
open Go Go.RowKit Go.Proofs.YtoobhpgkecplmaaW.PrintWords Go.Proofs.YtoobhpgkecplmaaW.PrintLast Go.Proofs.YtoobhpgkecplmaaW.PrintMore
attribute [local go_sem] max2_int min2_int max_two min_two max_three min_three max_four min_four
set_option linter.unusedVariables false
set_option linter.unusedSimpArgs false
theorem log_nil : pack_Log.f [] = some ([0], 0) := by
  unfold pack_Log.f
  rw [if_pos (by simp), if_pos (by simp), if_neg (by simp [evLong])]
  simp [evs, enc_small]
theorem unlog_zero : pack_Unlog.f [0] = some ([], 0) := by
  unfold pack_Unlog.f
  rw [if_pos (by simp)]
  have e1 : getP [0] = (0, 1, 0) := by decide
  have e2 : unlogP [0] = .ok [] := by
    unfold unlogP manyP wordP
    rw [e1]
    simp [evsP, finP]
  rw [e2]
  rfl
theorem live_yes : sakialaw38_live.f = some true := by
  unfold sakialaw38_live.f
  rw [log_nil, Option.bind_some, unlog_zero, Option.bind_some]
  rfl
theorem wordP_err {l : List Int} {e : Int} (h : wordP l = .error e) : e ≠ 0 := by
  unfold wordP at h
  split at h
  · cases h
  · rename_i hn
    injection h with h
    rwa [← h]
theorem numP_err {l : List Int} {e : Int} (h : numP l = .error e) : e ≠ 0 := by
  unfold numP at h
  split at h
  · cases h
  · rename_i e' he
    injection h with h
    rw [← h]
    exact wordP_err he
theorem manyP_err {m : Nat} {l : List Int} {e : Int} (h : manyP m l = .error e) : e ≠ 0 := by
  unfold manyP at h
  split at h
  · split at h
    · injection h with h
      rw [← h]
      decide
    · cases h
  · rename_i e' he
    injection h with h
    rw [← h]
    exact wordP_err he
theorem listP_err {l : List Int} {e : Int} (h : listP l = .error e) : e ≠ 0 := by
  unfold listP at h
  split at h
  · cases h
  · rename_i hn
    injection h with h
    rwa [← h]
theorem actP_err {l : List Int} {e : Int} (h : actP l = .error e) : e ≠ 0 := by
  unfold actP at h
  repeat' split at h
  all_goals first
    | (rename_i he; injection h with h; subst h; first | exact numP_err he | exact listP_err he)
    | cases h
theorem evP_err {l : List Int} {e : Int} (h : evP l = .error e) : e ≠ 0 := by
  unfold evP at h
  repeat' split at h
  all_goals first
    | (rename_i he; injection h with h; subst h; first | exact numP_err he | exact wordP_err he | exact listP_err he)
    | cases h
theorem listsP_err : ∀ (n : Nat) {l : List Int} {e : Int}, listsP n l = .error e → e ≠ 0
  | 0, l, e, h => by cases h
  | n + 1, l, e, h => by
    simp only [listsP] at h
    split at h
    · rename_i he
      injection h with h
      subst h
      exact listP_err he
    · split at h
      · rename_i he
        injection h with h
        subst h
        exact listsP_err n he
      · cases h
theorem actsP_err : ∀ (n : Nat) {l : List Int} {e : Int}, actsP n l = .error e → e ≠ 0
  | 0, l, e, h => by cases h
  | n + 1, l, e, h => by
    simp only [actsP] at h
    split at h
    · rename_i he
      injection h with h
      subst h
      exact actP_err he
    · split at h
      · rename_i he
        injection h with h
        subst h
        exact actsP_err n he
      · cases h
theorem evsP_err : ∀ (n : Nat) {l : List Int} {e : Int}, evsP n l = .error e → e ≠ 0
  | 0, l, e, h => by cases h
  | n + 1, l, e, h => by
    simp only [evsP] at h
    split at h
    · rename_i he
      injection h with h
      subst h
      exact evP_err he
    · split at h
      · rename_i he
        injection h with h
        subst h
        exact evsP_err n he
      · cases h
theorem unlogP_err {l : List Int} {e : Int} (h : unlogP l = .error e) : e ≠ 0 := by
  unfold unlogP at h
  split at h
  · rename_i he
    injection h with h
    subst h
    exact manyP_err he
  · rename_i n l1 h1
    cases h2 : evsP n l1 with
    | error e' =>
      rw [h2] at h
      simp only [finP] at h
      injection h with h
      subst h
      exact evsP_err n h2
    | ok q =>
      obtain ⟨xs, r⟩ := q
      rw [h2] at h
      cases r with
      | nil => cases h
      | cons c r =>
        simp only [finP] at h
        injection h with h
        subst h
        decide
theorem unscriptP_err {l : List Int} {e : Int} (h : unscriptP l = .error e) : e ≠ 0 := by
  unfold unscriptP at h
  repeat' split at h
  all_goals first
    | (rename_i he; injection h with h; subst h; first | exact numP_err he | exact wordP_err he | exact manyP_err he)
    | skip
  rename_i n l6 _
  cases h2 : listsP n l6 with
  | error e' =>
    rw [h2] at h
    simp only [finU] at h
    injection h with h
    subst h
    exact listsP_err n h2
  | ok q =>
    obtain ⟨us, r⟩ := q
    rw [h2] at h
    simp only [finU] at h
    split at h
    · rename_i he
      injection h with h
      subst h
      exact manyP_err he
    · rename_i m l8 _
      cases h3 : actsP m l8 with
      | error e' =>
        rw [h3] at h
        simp only [finA] at h
        injection h with h
        subst h
        exact actsP_err m h3
      | ok q =>
        obtain ⟨xs, r⟩ := q
        rw [h3] at h
        cases r with
        | nil => cases h
        | cons c r =>
          simp only [finA] at h
          injection h with h
          subst h
          decide
theorem bytes_all {b : List Int} (hb : bytes b) : (b.all fun c => decide (0 ≤ c) && decide (c ≤ 255)) = true := by
  rw [List.all_eq_true]
  intro c hc
  have := hb c hc
  simp only [this.1, this.2, decide_true, Bool.and_self]
theorem unscript_f {b : List Int} (hb : bytes b) (hl : b.length ≤ 2000000) : pack_Unscript.f b = some (outP zScr (unscriptP b)) := by
  unfold pack_Unscript.f
  rw [if_pos ⟨hl, bytes_all hb⟩]
theorem unlog_f {b : List Int} (hb : bytes b) (hl : b.length ≤ 2000000) : pack_Unlog.f b = some (outP [] (unlogP b)) := by
  unfold pack_Unlog.f
  rw [if_pos ⟨hl, bytes_all hb⟩]
theorem enc_one (x : Nat) : 1 ≤ (enc x).length := enc_pos x
theorem acts_count (l : List S54) : 4 * l.length ≤ (acts l).length := by
  induction l with
  | nil => exact Nat.le_refl _
  | cons a l ih =>
    have e : acts (a :: l) = actB a ++ acts l := by simp [acts]
    have h1 := enc_one (zigI a.f0)
    have h2 := enc_one (zigI a.f1.f0)
    have h3 := enc_one (zigI a.f1.f1)
    have h4 := enc_one a.f1.f2.length
    rw [e, List.length_append, List.length_cons]
    simp only [actB, nums_cons, nums_nil, lst, List.length_append, List.length_nil]
    omega
theorem evs_count (l : List S56) : 7 * l.length ≤ (evs l).length := by
  induction l with
  | nil => exact Nat.le_refl _
  | cons a l ih =>
    have e : evs (a :: l) = evB a ++ evs l := by simp [evs]
    have h1 := enc_one (zigI a.f0)
    have h2 := enc_one (zigI a.f1)
    have h3 := enc_one (zigI a.f2)
    have h4 := enc_one (zigI a.f3)
    have h5 := enc_one a.f4.toNat
    have h6 := enc_one (zigI a.f5)
    have h7 := enc_one a.f6.length
    rw [e, List.length_append, List.length_cons]
    simp only [evB, nums_cons, nums_nil, lst, List.length_append, List.length_nil]
    omega
theorem fineL_ok {l : List Int} (h : fineL l) : okL l = true := by
  simp only [okL, Bool.and_eq_true, decide_eq_true_eq, List.all_eq_true]
  exact ⟨by have := h.1; omega, h.2⟩
theorem fineA_ok {a : S54} (h : fineA a) : okA a = true := by
  obtain ⟨h1, h2, h3, h4, h5⟩ := h
  simp only [okA, h1, h2, h3, fineL_ok ⟨h4, h5⟩, Bool.and_self]
theorem fineE_ok {a : S56} (h : fineE a) : okE a = true := by
  obtain ⟨h1, h2, h3, h4, h5, h6, h7, h8, h9⟩ := h
  simp only [okE, Bool.and_eq_true, decide_eq_true_eq, List.all_eq_true]
  exact ⟨⟨⟨⟨⟨⟨⟨⟨h1, h2⟩, h3⟩, h4⟩, h7⟩, h5⟩, h6⟩, by omega⟩, h9⟩
theorem script_f {s : Scr} (h : FineS s) (ha : s.acts.length ≤ 1000) : pack_Script.f s.a s.b s.c s.d s.p s.up s.acts = some (scrB s.a s.b s.c s.d s.p s.up s.acts, 0) := by
  have hu := h.un
  unfold pack_Script.f
  rw [if_pos (by simp only [h.a, h.b, h.c, h.d, h.p0, h.p1, decide_true, Bool.and_self]), if_pos ⟨by omega, ha⟩, if_pos, if_neg]
  · simp only [scrLong, upLong, actLong, Bool.or_eq_true, decide_eq_true_eq, List.any_eq_true, not_or, not_exists, not_and]
    refine ⟨⟨⟨by omega, fun x hx => ?_⟩, by omega⟩, fun x hx => ?_⟩
    · have := (h.u x hx).1
      omega
    · have := (h.s x hx).2.2.2.1
      omega
  · simp only [Bool.and_eq_true, List.all_eq_true]
    exact ⟨fun x hx => fineL_ok (h.u x hx), fun x hx => fineA_ok (h.s x hx)⟩
theorem log_f {l : List S56} (h : ∀ e ∈ l, fineE e) (hl : l.length ≤ 1000) : pack_Log.f l = some (enc l.length ++ evs l, 0) := by
  unfold pack_Log.f
  rw [if_pos hl, if_pos (List.all_eq_true.2 (fun e he => fineE_ok (h e he))), if_neg]
  simp only [evLong, Bool.or_eq_true, decide_eq_true_eq, List.any_eq_true, not_or, not_exists, not_and]
  refine ⟨by omega, fun x hx => ?_⟩
  have := (h x hx).2.2.2.2.2.2.2.1
  omega
theorem once_script {b : List Int} (hb : bytes b) (hl : b.length ≤ 4000) {s : Scr} (h : unscriptP b = .ok s) : pack_Script.f s.a s.b s.c s.d s.p s.up s.acts = some (b, 0) := by
  obtain ⟨e, hf⟩ := unscriptP_sound hb h
  have hc := acts_count s.acts
  have hle : (acts s.acts).length ≤ b.length := by
    rw [e]
    simp only [scrB, List.length_append]
    omega
  rw [script_f hf (by omega), ← e]
theorem once_log {b : List Int} (hb : bytes b) (hl : b.length ≤ 4000) {l : List S56} (h : unlogP b = .ok l) : pack_Log.f l = some (b, 0) := by
  obtain ⟨e, _, hf⟩ := unlogP_sound hb h
  have hc := evs_count l
  have hle : (evs l).length ≤ b.length := by
    rw [e, List.length_append]
    omega
  rw [log_f hf (by omega), ← e]
set_option maxHeartbeats 8000000 in
set_option maxRecDepth 100000 in
theorem once_calls (A0 : Option Addr) (c0 : Nat) (b : List Int) (w : World) (hr0 : Kd.C (Kd.int .u8) w A0 b.length b) (hc0 : b.length ≤ c0) (hb : bytes b) :
    Calls Try.prog 6 #[.slice A0 b.length c0] w fun e w' => e = .returned (.bool true) ∧ Below w.heap.size w w' := by
  have HC := Aside0.mk (fun W' (hb : Below w.heap.size w W') => Kd.C_below hr0 hb)
  have HC1 := Aside0.mk hc0
  clear hr0 hc0
  go_enter Try.func6, Try.ntmps6
  by_cases hlen : (b.length : Int) > 4000
  · have c13 : decide ((b.length : Int) > 4000) = true := decide_eq_true hlen
    go_wp2_with (fail)
    go_at_call 9
    (with_reducible refine (sakialaw38_live.calls true _ live_yes).mono ?_)
    rintro e w2 ⟨rfl, hbw⟩
    go_wp2_with (fail)
    go_ret
    exact ⟨rfl, hbw⟩
  have c13 : decide ((b.length : Int) > 4000) = false := decide_eq_false hlen
  have HL := Aside0.mk (show b.length ≤ 4000 by omega)
  have HL2 := Aside0.mk (show b.length ≤ 2000000 by omega)
  clear hlen
  go_wp2_with (fail)
  go_at_call 14
  cases hu : unscriptP b with
  | error e1 =>
    have hf1 : pack_Unscript.f b = some (zScr, e1) := by rw [unscript_f hb HL2.out, hu]; rfl
    have h01 := unscriptP_err hu
    (with_reducible refine (pack_Unscript.calls A0 c0 b zScr e1 w (HC.out _ (Below.refl _ _)) HC1.out hf1).mono ?_)
    rintro e Wa ⟨A5, A6, c5, c6, rfl, hC5, hl5, hC6, hl6, hb1⟩
    have c21 : decide (e1 = 0) = false := decide_eq_false h01
  
    go_wp2_with (fail)
    go_at_call 16
    cases hv : unlogP b with
    | error e3 =>
      have hf3 : pack_Unlog.f b = some ([], e3) := by rw [unlog_f hb HL2.out, hv]; rfl
      have h03 := unlogP_err hv
      (with_reducible refine (pack_Unlog.calls A0 c0 b [] e3 _ (HC.out _ (below_alloc hb1 _)) HC1.out hf3).mono ?_)
      rintro e Wb ⟨v3, rfl, hS, hb3⟩
      have HBb := below_step (below_alloc hb1 _) hb3
      obtain ⟨A3, c3, rfl⟩ := Kd.R_slice (Kd.S_R hS)
      have c42 : decide (e3 = 0) = false := decide_eq_false h03
      go_wp2_with (fail)
      go_at_call 9
      (with_reducible refine (sakialaw38_live.calls true _ live_yes).mono ?_)
      rintro e Wc ⟨rfl, hb4⟩
      go_wp2_with (fail)
      go_ret
      exact ⟨rfl, below_step HBb hb4⟩
    | ok l =>
      have hf3 : pack_Unlog.f b = some (l, 0) := by rw [unlog_f hb HL2.out, hv]; rfl
      (with_reducible refine (pack_Unlog.calls A0 c0 b l 0 _ (HC.out _ (below_alloc hb1 _)) HC1.out hf3).mono ?_)
      rintro e Wb ⟨v3, rfl, hS, hb3⟩
      have HBb := below_step (below_alloc hb1 _) hb3
      obtain ⟨A3, c3, rfl, hl3, hC3⟩ := Kd.R_reads (Kd.S_R hS)
      go_wp2_with (fail)
      go_at_call 12
      (with_reducible refine (pack_Log.calls A3 c3 l b 0 _ hC3 hl3 (once_log hb HL.out hv)).mono ?_)
      rintro e Wc ⟨v4, rfl, ho4, hb4⟩
      have HBc := below_step HBb hb4
      obtain ⟨A4, c4, rfl⟩ := Kd.R_slice ho4
      have hs1 := own_string (P := Try.prog) Try.underlying33 Try.underlying5 Try.underlying9 (Kd.own_of_R ho4)
      have hs2 := Kd.C_string (P := Try.prog) (c := c0) Try.underlying33 Try.underlying5 Try.underlying9 (HC.out _ HBc)
      go_wp2_with (fail)
      go_at_call 9
      (with_reducible refine (sakialaw38_live.calls true _ live_yes).mono ?_)
      rintro e Wd ⟨rfl, hb5⟩
      go_wp2_with (fail)
      go_ret
      exact ⟨rfl, below_step HBc hb5⟩
  | ok s =>
    have hf1 : pack_Unscript.f b = some (s, 0) := by rw [unscript_f hb HL2.out, hu]; rfl
    (with_reducible refine (pack_Unscript.calls A0 c0 b s 0 w (HC.out _ (Below.refl _ _)) HC1.out hf1).mono ?_)
    rintro e Wa ⟨A5, A6, c5, c6, rfl, hC5, hl5, hC6, hl6, hb1⟩
    go_wp2_with (fail)
    go_at_call 10
    (with_reducible refine (pack_Script.calls s.a s.b s.c s.d s.p A5 c5 s.up A6 c6 s.acts b 0 _ (Kd.C_alloc hC5 _) hl5 (Kd.C_alloc hC6 _) hl6 (once_script hb HL.out hu)).mono ?_)
    rintro e Wx ⟨v2, rfl, ho2, hb2⟩
    have HBx := below_step (below_alloc hb1 _) hb2
    obtain ⟨A2, c2, rfl⟩ := Kd.R_slice ho2
    have hs1 := own_string (P := Try.prog) Try.underlying33 Try.underlying5 Try.underlying9 (Kd.own_of_R ho2)
    have hs2 := Kd.C_string (P := Try.prog) (c := c0) Try.underlying33 Try.underlying5 Try.underlying9 (HC.out _ HBx)
    clear hC5 hC6 ho2 hb1 hb2
    go_wp2_with (fail)
    go_at_call 16
    cases hv : unlogP b with
    | error e3 =>
      have hf3 : pack_Unlog.f b = some ([], e3) := by rw [unlog_f hb HL2.out, hv]; rfl
      have h03 := unlogP_err hv
      (with_reducible refine (pack_Unlog.calls A0 c0 b [] e3 _ (HC.out _ HBx) HC1.out hf3).mono ?_)
      rintro e Wb ⟨v3, rfl, hS, hb3⟩
      have HBb := below_step HBx hb3
      obtain ⟨A3, c3, rfl⟩ := Kd.R_slice (Kd.S_R hS)
      have c42 : decide (e3 = 0) = false := decide_eq_false h03
      go_wp2_with (fail)
      go_at_call 9
      (with_reducible refine (sakialaw38_live.calls true _ live_yes).mono ?_)
      rintro e Wc ⟨rfl, hb4⟩
      go_wp2_with (fail)
      go_ret
      exact ⟨rfl, below_step HBb hb4⟩
    | ok l =>
      have hf3 : pack_Unlog.f b = some (l, 0) := by rw [unlog_f hb HL2.out, hv]; rfl
      (with_reducible refine (pack_Unlog.calls A0 c0 b l 0 _ (HC.out _ HBx) HC1.out hf3).mono ?_)
      rintro e Wb ⟨v3, rfl, hS, hb3⟩
      have HBb := below_step HBx hb3
      obtain ⟨A3, c3, rfl, hl3, hC3⟩ := Kd.R_reads (Kd.S_R hS)
      go_wp2_with (fail)
      go_at_call 12
      (with_reducible refine (pack_Log.calls A3 c3 l b 0 _ hC3 hl3 (once_log hb HL.out hv)).mono ?_)
      rintro e Wc ⟨v4, rfl, ho4, hb4⟩
      have HBc := below_step HBb hb4
      obtain ⟨A4, c4, rfl⟩ := Kd.R_slice ho4
      have hs1 := own_string (P := Try.prog) Try.underlying33 Try.underlying5 Try.underlying9 (Kd.own_of_R ho4)
      have hs2 := Kd.C_string (P := Try.prog) (c := c0) Try.underlying33 Try.underlying5 Try.underlying9 (HC.out _ HBc)
      go_wp2_with (fail)
      go_at_call 9
      (with_reducible refine (sakialaw38_live.calls true _ live_yes).mono ?_)
      rintro e Wd ⟨rfl, hb5⟩
      go_wp2_with (fail)
      go_ret
      exact ⟨rfl, below_step HBc hb5⟩
end Go.Proofs.Ytoobhpgkecplmaa.QPackBack
