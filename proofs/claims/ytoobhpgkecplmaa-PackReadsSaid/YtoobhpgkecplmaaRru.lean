/- Lemmas: what functions of package pack compute, by hand. No conditions but those that the theorems name. -/
import Derived.Test.YtoobhpgkecplmaaRrb
import Derived.WalkSmall
namespace Go.Proofs.Ytoobhpgkecplmaa.QPackReads
open Go Go.RowKit Go.Proofs.YtoobhpgkecplmaaW.PrintWords Go.Proofs.YtoobhpgkecplmaaW.PrintLast Go.Proofs.YtoobhpgkecplmaaW.PrintMore
attribute [local go_sem] max2_int min2_int max_two min_two max_three min_three max_four min_four
set_option linter.unusedVariables false
set_option linter.unusedSimpArgs false
theorem rel_err {α : Type} {p : List Int → Except Int (α × List Int)} {l l' : List Int} {e e' : Int} {x : α} (h : Rel p l e x l' e') (he : e ≠ 0) : e' = e := by
  rcases h with ⟨h, _⟩ | ⟨h, _⟩ | ⟨_, h⟩
  · exact absurd h he
  · exact absurd h he
  · exact h
theorem rel_ok {α : Type} {p : List Int → Except Int (α × List Int)} {l l' : List Int} {e' : Int} {x : α} (h : Rel p l 0 x l' e') : (e' = 0 ∧ p l = .ok (x, l')) ∨ (e' ≠ 0 ∧ p l = .error e') := by
  rcases h with ⟨_, h⟩ | ⟨_, h⟩ | ⟨h, _⟩
  · exact .inl h
  · exact .inr h
  · exact absurd rfl h
/-- all is well so far, or the first error is kept -/
def Up2 {β : Type} (well : Prop) (tot : Except Int β) (e : Int) : Prop := (e = 0 ∧ well) ∨ (e ≠ 0 ∧ tot = .error e)
theorem ev_chain {l0 l1 l2 l3 l4 l5 l6 l7 : List Int} {e1 e2 e3 e4 e5 e6 e7 : Int} {a : Int} {b : Int} {c : Int} {d : Int} {p : Nat} {q : Int} {z : List Int} (r1 : Rel numP l0 0 a l1 e1) (r2 : Rel numP l1 e1 b l2 e2) (r3 : Rel numP l2 e2 c l3 e3) (r4 : Rel numP l3 e3 d l4 e4) (r5 : Rel wordP l4 e4 p l5 e5) (r6 : Rel numP l5 e5 q l6 e6) (r7 : Rel listP l6 e6 z l7 e7) : (e7 = 0 ∧ evP l0 = .ok (⟨a, b, c, d, (p : Int), q, z⟩, l7)) ∨ (e7 ≠ 0 ∧ evP l0 = .error e7) := by
  rcases rel_ok r1 with ⟨h1, k1⟩ | ⟨h1, k1⟩
  rotate_left
  · have g1 := h1
    have q2 := rel_err r2 g1
    have g2 : e2 ≠ 0 := by rw [q2]; exact g1
    have q3 := rel_err r3 g2
    have g3 : e3 ≠ 0 := by rw [q3]; exact g2
    have q4 := rel_err r4 g3
    have g4 : e4 ≠ 0 := by rw [q4]; exact g3
    have q5 := rel_err r5 g4
    have g5 : e5 ≠ 0 := by rw [q5]; exact g4
    have q6 := rel_err r6 g5
    have g6 : e6 ≠ 0 := by rw [q6]; exact g5
    have q7 := rel_err r7 g6
    have g7 : e7 ≠ 0 := by rw [q7]; exact g6
    have qq : e7 = e1 := by rw [q7, q6, q5, q4, q3, q2]
    refine .inr ⟨g7, ?_⟩
    rw [qq]
    simp only [evP, k1]
  subst h1
  rcases rel_ok r2 with ⟨h2, k2⟩ | ⟨h2, k2⟩
  rotate_left
  · have g2 := h2
    have q3 := rel_err r3 g2
    have g3 : e3 ≠ 0 := by rw [q3]; exact g2
    have q4 := rel_err r4 g3
    have g4 : e4 ≠ 0 := by rw [q4]; exact g3
    have q5 := rel_err r5 g4
    have g5 : e5 ≠ 0 := by rw [q5]; exact g4
    have q6 := rel_err r6 g5
    have g6 : e6 ≠ 0 := by rw [q6]; exact g5
    have q7 := rel_err r7 g6
    have g7 : e7 ≠ 0 := by rw [q7]; exact g6
    have qq : e7 = e2 := by rw [q7, q6, q5, q4, q3]
    refine .inr ⟨g7, ?_⟩
    rw [qq]
    simp only [evP, k1, k2]
  subst h2
  rcases rel_ok r3 with ⟨h3, k3⟩ | ⟨h3, k3⟩
  rotate_left
  · have g3 := h3
    have q4 := rel_err r4 g3
    have g4 : e4 ≠ 0 := by rw [q4]; exact g3
    have q5 := rel_err r5 g4
    have g5 : e5 ≠ 0 := by rw [q5]; exact g4
    have q6 := rel_err r6 g5
    have g6 : e6 ≠ 0 := by rw [q6]; exact g5
    have q7 := rel_err r7 g6
    have g7 : e7 ≠ 0 := by rw [q7]; exact g6
    have qq : e7 = e3 := by rw [q7, q6, q5, q4]
    refine .inr ⟨g7, ?_⟩
    rw [qq]
    simp only [evP, k1, k2, k3]
  subst h3
  rcases rel_ok r4 with ⟨h4, k4⟩ | ⟨h4, k4⟩
  rotate_left
  · have g4 := h4
    have q5 := rel_err r5 g4
    have g5 : e5 ≠ 0 := by rw [q5]; exact g4
    have q6 := rel_err r6 g5
    have g6 : e6 ≠ 0 := by rw [q6]; exact g5
    have q7 := rel_err r7 g6
    have g7 : e7 ≠ 0 := by rw [q7]; exact g6
    have qq : e7 = e4 := by rw [q7, q6, q5]
    refine .inr ⟨g7, ?_⟩
    rw [qq]
    simp only [evP, k1, k2, k3, k4]
  subst h4
  rcases rel_ok r5 with ⟨h5, k5⟩ | ⟨h5, k5⟩
  rotate_left
  · have g5 := h5
    have q6 := rel_err r6 g5
    have g6 : e6 ≠ 0 := by rw [q6]; exact g5
    have q7 := rel_err r7 g6
    have g7 : e7 ≠ 0 := by rw [q7]; exact g6
    have qq : e7 = e5 := by rw [q7, q6]
    refine .inr ⟨g7, ?_⟩
    rw [qq]
    simp only [evP, k1, k2, k3, k4, k5]
  subst h5
  rcases rel_ok r6 with ⟨h6, k6⟩ | ⟨h6, k6⟩
  rotate_left
  · have g6 := h6
    have q7 := rel_err r7 g6
    have g7 : e7 ≠ 0 := by rw [q7]; exact g6
    have qq : e7 = e6 := by rw [q7]
    refine .inr ⟨g7, ?_⟩
    rw [qq]
    simp only [evP, k1, k2, k3, k4, k5, k6]
  subst h6
  rcases rel_ok r7 with ⟨h7, k7⟩ | ⟨h7, k7⟩
  rotate_left
  · have g7 := h7
    have qq : e7 = e7 := rfl
    refine .inr ⟨g7, ?_⟩
    rw [qq]
    simp only [evP, k1, k2, k3, k4, k5, k6, k7]
  subst h7
  refine .inl ⟨rfl, ?_⟩
  simp only [evP, k1, k2, k3, k4, k5, k6, k7]
theorem act_chain {l0 l1 l2 l3 l4 : List Int} {e1 e2 e3 e4 : Int} {a : Int} {b : Int} {c : Int} {z : List Int} (r1 : Rel numP l0 0 a l1 e1) (r2 : Rel numP l1 e1 b l2 e2) (r3 : Rel numP l2 e2 c l3 e3) (r4 : Rel listP l3 e3 z l4 e4) : (e4 = 0 ∧ actP l0 = .ok (⟨a, ⟨b, c, z⟩⟩, l4)) ∨ (e4 ≠ 0 ∧ actP l0 = .error e4) := by
  rcases rel_ok r1 with ⟨h1, k1⟩ | ⟨h1, k1⟩
  rotate_left
  · have g1 := h1
    have q2 := rel_err r2 g1
    have g2 : e2 ≠ 0 := by rw [q2]; exact g1
    have q3 := rel_err r3 g2
    have g3 : e3 ≠ 0 := by rw [q3]; exact g2
    have q4 := rel_err r4 g3
    have g4 : e4 ≠ 0 := by rw [q4]; exact g3
    have qq : e4 = e1 := by rw [q4, q3, q2]
    refine .inr ⟨g4, ?_⟩
    rw [qq]
    simp only [actP, k1]
  subst h1
  rcases rel_ok r2 with ⟨h2, k2⟩ | ⟨h2, k2⟩
  rotate_left
  · have g2 := h2
    have q3 := rel_err r3 g2
    have g3 : e3 ≠ 0 := by rw [q3]; exact g2
    have q4 := rel_err r4 g3
    have g4 : e4 ≠ 0 := by rw [q4]; exact g3
    have qq : e4 = e2 := by rw [q4, q3]
    refine .inr ⟨g4, ?_⟩
    rw [qq]
    simp only [actP, k1, k2]
  subst h2
  rcases rel_ok r3 with ⟨h3, k3⟩ | ⟨h3, k3⟩
  rotate_left
  · have g3 := h3
    have q4 := rel_err r4 g3
    have g4 : e4 ≠ 0 := by rw [q4]; exact g3
    have qq : e4 = e3 := by rw [q4]
    refine .inr ⟨g4, ?_⟩
    rw [qq]
    simp only [actP, k1, k2, k3]
  subst h3
  rcases rel_ok r4 with ⟨h4, k4⟩ | ⟨h4, k4⟩
  rotate_left
  · have g4 := h4
    have qq : e4 = e4 := rfl
    refine .inr ⟨g4, ?_⟩
    rw [qq]
    simp only [actP, k1, k2, k3, k4]
  subst h4
  refine .inl ⟨rfl, ?_⟩
  simp only [actP, k1, k2, k3, k4]
set_option maxHeartbeats 8000000 in
set_option maxRecDepth 100000 in
theorem sakiaref38_Unlog.calls (A0 : Option Addr) (c0 : Nat) (l0 : List Int) (r1 : List S56) (r2 : Int) (w : World) (hr0 : Kd.C (Kd.int .u8) w A0 l0.length l0) (hc0 : l0.length ≤ c0) (h : pack_Unlog.f l0 = some (r1, r2)) :
    Calls Try.prog 17 #[.slice A0 l0.length c0] w fun e w' => ∃ v0_ : Value, e = .returned (.tuple #[v0_, .int .i64 r2]) ∧ Kd.S k56 56 w' w.heap.size (fun _ => True) v0_ r1 ∧ Below w.heap.size w w' := by
  have HC0 := Aside0.mk hr0
  have HC1 := Aside0.mk hc0
  have hg : l0.length ≤ 2000000 ∧ (l0.all fun c => decide (0 ≤ c) && decide (c ≤ 255)) = true := by
    unfold pack_Unlog.f at h
    split at h
    · assumption
    · cases h
  unfold pack_Unlog.f at h
  rw [if_pos hg] at h
  have HG := Aside0.mk hg
  have H := Aside0.mk (Option.some.inj h)
  clear h hg hr0 hc0
  go_enter Try.func17, Try.ntmps17
  go_upto_region 3 with (fail)
  have hb0 := below_alloc (Below.refl w.heap.size w) (.cells #[.slice A0 l0.length c0, .int .i64 0] 78)
  have hbr := blk_new w (.cells #[.slice A0 l0.length c0, .int .i64 0] 78)
  have hR : Rs w w.heap.size _ l0 0 := ⟨fun c hc => by have := List.all_eq_true.1 HG.out.2 c hc; simpa using this, HG.out.1, hb0, Nat.le_refl _, A0, c0, hbr, HC0.out, HC1.out⟩
  clear hb0 hbr
  generalize w.alloc (.cells #[.slice A0 l0.length c0, .int .i64 0] 78) = W at *
  obtain ⟨gr, hgr⟩ : ∃ gr, gr = w.heap.size := ⟨_, rfl⟩
  rw [← hgr] at hR ⊢
  have HGR := Aside0.mk hgr
  clear hgr
  have HR := Aside0.mk hR
  clear hR
  go_wp2_with (fail)
  go_at_call 38
  (refine (rrmany 65536 (by decide) gr l0 0 w _ HR.out).mono ?_)
  rintro e W1 ⟨hk, n, l1, e1, rfl, hn, hr, hrel⟩
  have HU := Aside0.mk (show Up2 (finP [] (evsP (n - 0) l1) = unlogP l0) (unlogP l0) e1 from by
    rcases rel_ok hrel with ⟨h1, h2⟩ | ⟨h1, h2⟩
    · exact .inl ⟨h1, by unfold unlogP; rw [h2, Nat.sub_zero]⟩
    · exact .inr ⟨h1, by unfold unlogP; rw [h2]⟩)
  have HR1 := Aside0.mk hr
  have HN := Aside0.mk hn
  clear hk hr hrel HR hn
  go_wp2_with (fail)
  go_loopg [5, 7] (n + 1) (fun kq v5 v7 wc => ∃ (i : Nat) (acc : List S56) (l' : List Int) (e' : Int), i ≤ n ∧ n < i + kq ∧ v7 = .int .i64 (i : Int) ∧ Aside0 (acc.length = i) ∧ Aside0 (Kd.S k56 56 wc w.heap.size (fun _ => True) v5 acc) ∧ Aside0 (Rs w gr wc l' e') ∧ Aside0 (Up2 (finP acc (evsP (n - i) l') = unlogP l0) (unlogP l0) e'))
  case atStart => exact ⟨0, [], l1, e1, by omega, by omega, rfl, ⟨rfl⟩, ⟨Kd.S_nil _ _ _ _ _⟩, HR1, HU⟩
  case round =>
    clear HR1 HU
    obtain ⟨i, acc, l', e', hi, hik, rfl, HL, HV, HR, HU⟩ := hrel
    cases gk with
    | zero => omega
    | succ g =>
    obtain ⟨hc1, hf1⟩ := HR.out.e1
    obtain ⟨A3, c3, rfl⟩ := Kd.R_slice (Kd.S_R HV.out)
    by_cases hgo : i < n ∧ e' = 0
    · obtain ⟨hlt, rfl⟩ := hgo
      have c1b : decide ((i : Int) < (n : Int)) = true := decide_eq_true (by omega)
      have HF : finP acc (evsP (n - i) l') = unlogP l0 := by
        rcases HU.out with ⟨_, h⟩ | ⟨h, _⟩
        · exact h
        · exact absurd rfl h
      have HF := Aside0.mk HF
      clear HU
      go_upto_region 8 with (fail)
      have hbx := blk_new wr (.cells #[.int .i64 0, .int .i64 0, .int .i64 0, .int .i64 0, .int .u64 0, .int .i64 0, .slice none 0 0] 56)
      have hax : Below wr.heap.size wr _ := below_alloc (Below.refl _ _) (.cells #[.int .i64 0, .int .i64 0, .int .i64 0, .int .i64 0, .int .u64 0, .int .i64 0, .slice none 0 0] 56)
      have hV1 := Kd.S_mono (Kd.S_old HV.out hax) (ok' := fun k => k < wr.heap.size) (fun _ hk => hk.2)
      have hR1 := HR.out.step hax
      have q3 := HR.out.lt
      have q4 := HR.out.below.size
      clear HV HR hax hc1 hf1
      generalize wr.alloc (.cells #[.int .i64 0, .int .i64 0, .int .i64 0, .int .i64 0, .int .u64 0, .int .i64 0, .slice none 0 0] 56) = X0 at *
      obtain ⟨gx, hgx⟩ : ∃ gx, gx = wr.heap.size := ⟨_, rfl⟩
      rw [← hgx] at hbx q3 hV1 ⊢
      have x3 : gx ≠ gr := by omega
      have XG := Aside0.mk (show w.heap.size ≤ gx by omega)
      clear q3 q4 hgx
      have HV0 := Aside0.mk hV1
      have HR0 := Aside0.mk hR1
      have HX0 := Aside0.mk hbx
      clear hV1 hR1 hbx
      go_wp2_with (fail)
      go_at_call 36
      (with_reducible refine (rrnum gr l' 0 w _ HR0.out).mono ?_)
      rintro e Y0 ⟨hk, a, m1, f1, rfl, hr, hrel⟩
      obtain ⟨Ab, cb, hblk, _, _⟩ := HR0.out.blk
      have hV := Kd.S_mono (Kd.S_keep (Kd.S_types HV0.out hblk (by decide)) hk (fun _ hk => hk.2)) (ok' := fun k => k < gx) (fun _ hk => hk.1)
      have hX := hk.blk HX0.out x3 (by simp)
      have HE1 := Aside0.mk hrel
      clear HV0 HR0 HX0 hblk
      have hcx : Y0.cell? ⟨gx, 0, none⟩ = some (.int .i64 0) := (blk_cell hX 0).trans rfl
      have hfx := blk_frozen hX 0
      have hX2 := Aside0.mk (blk_set hX 0 (.int .i64 a))
      have hV2 := Aside0.mk (Kd.S_far hV (p := ⟨gx, 0, none⟩) (fun k hk => Nat.ne_of_lt hk) (.int .i64 a))
      have hR2 := Aside0.mk (hr.other x3 XG.out 0 (.int .i64 a))
      clear hX hV hr hk hrel
      go_upto_region 9 with (fail)
      clear hcx hfx
      generalize Y0.setCell ⟨gx, 0, none⟩ (.int .i64 a) = X1 at *
      have HX1 : Aside0 (X1.heap[gx]? = some (.cells #[.int .i64 a, .int .i64 0, .int .i64 0, .int .i64 0, .int .u64 0, .int .i64 0, .slice none 0 0] 56 (0, 0))) := ⟨hX2.out⟩
      have HV1 := hV2
      have HR1 := hR2
      clear hX2 hV2 hR2
      go_wp2_with (fail)
      go_at_call 36
      (with_reducible refine (rrnum gr m1 f1 w _ HR1.out).mono ?_)
      rintro e Y1 ⟨hk, b, m2, f2, rfl, hr, hrel⟩
      obtain ⟨Ab, cb, hblk, _, _⟩ := HR1.out.blk
      have hV := Kd.S_mono (Kd.S_keep (Kd.S_types HV1.out hblk (by decide)) hk (fun _ hk => hk.2)) (ok' := fun k => k < gx) (fun _ hk => hk.1)
      have hX := hk.blk HX1.out x3 (by simp)
      have HE2 := Aside0.mk hrel
      clear HV1 HR1 HX1 hblk
      have hcx : Y1.cell? ⟨gx, 1, none⟩ = some (.int .i64 0) := (blk_cell hX 1).trans rfl
      have hfx := blk_frozen hX 1
      have hX2 := Aside0.mk (blk_set hX 1 (.int .i64 b))
      have hV2 := Aside0.mk (Kd.S_far hV (p := ⟨gx, 1, none⟩) (fun k hk => Nat.ne_of_lt hk) (.int .i64 b))
      have hR2 := Aside0.mk (hr.other x3 XG.out 1 (.int .i64 b))
      clear hX hV hr hk hrel
      go_upto_region 10 with (fail)
      clear hcx hfx
      generalize Y1.setCell ⟨gx, 1, none⟩ (.int .i64 b) = X2 at *
      have HX2 : Aside0 (X2.heap[gx]? = some (.cells #[.int .i64 a, .int .i64 b, .int .i64 0, .int .i64 0, .int .u64 0, .int .i64 0, .slice none 0 0] 56 (0, 0))) := ⟨hX2.out⟩
      have HV2 := hV2
      have HR2 := hR2
      clear hX2 hV2 hR2
      go_wp2_with (fail)
      go_at_call 36
      (with_reducible refine (rrnum gr m2 f2 w _ HR2.out).mono ?_)
      rintro e Y2 ⟨hk, c, m3, f3, rfl, hr, hrel⟩
      obtain ⟨Ab, cb, hblk, _, _⟩ := HR2.out.blk
      have hV := Kd.S_mono (Kd.S_keep (Kd.S_types HV2.out hblk (by decide)) hk (fun _ hk => hk.2)) (ok' := fun k => k < gx) (fun _ hk => hk.1)
      have hX := hk.blk HX2.out x3 (by simp)
      have HE3 := Aside0.mk hrel
      clear HV2 HR2 HX2 hblk
      have hcx : Y2.cell? ⟨gx, 2, none⟩ = some (.int .i64 0) := (blk_cell hX 2).trans rfl
      have hfx := blk_frozen hX 2
      have hX2 := Aside0.mk (blk_set hX 2 (.int .i64 c))
      have hV2 := Aside0.mk (Kd.S_far hV (p := ⟨gx, 2, none⟩) (fun k hk => Nat.ne_of_lt hk) (.int .i64 c))
      have hR2 := Aside0.mk (hr.other x3 XG.out 2 (.int .i64 c))
      clear hX hV hr hk hrel
      go_upto_region 11 with (fail)
      clear hcx hfx
      generalize Y2.setCell ⟨gx, 2, none⟩ (.int .i64 c) = X3 at *
      have HX3 : Aside0 (X3.heap[gx]? = some (.cells #[.int .i64 a, .int .i64 b, .int .i64 c, .int .i64 0, .int .u64 0, .int .i64 0, .slice none 0 0] 56 (0, 0))) := ⟨hX2.out⟩
      have HV3 := hV2
      have HR3 := hR2
      clear hX2 hV2 hR2
      go_wp2_with (fail)
      go_at_call 36
      (with_reducible refine (rrnum gr m3 f3 w _ HR3.out).mono ?_)
      rintro e Y3 ⟨hk, d, m4, f4, rfl, hr, hrel⟩
      obtain ⟨Ab, cb, hblk, _, _⟩ := HR3.out.blk
      have hV := Kd.S_mono (Kd.S_keep (Kd.S_types HV3.out hblk (by decide)) hk (fun _ hk => hk.2)) (ok' := fun k => k < gx) (fun _ hk => hk.1)
      have hX := hk.blk HX3.out x3 (by simp)
      have HE4 := Aside0.mk hrel
      clear HV3 HR3 HX3 hblk
      have hcx : Y3.cell? ⟨gx, 3, none⟩ = some (.int .i64 0) := (blk_cell hX 3).trans rfl
      have hfx := blk_frozen hX 3
      have hX2 := Aside0.mk (blk_set hX 3 (.int .i64 d))
      have hV2 := Aside0.mk (Kd.S_far hV (p := ⟨gx, 3, none⟩) (fun k hk => Nat.ne_of_lt hk) (.int .i64 d))
      have hR2 := Aside0.mk (hr.other x3 XG.out 3 (.int .i64 d))
      clear hX hV hr hk hrel
      go_upto_region 12 with (fail)
      clear hcx hfx
      generalize Y3.setCell ⟨gx, 3, none⟩ (.int .i64 d) = X4 at *
      have HX4 : Aside0 (X4.heap[gx]? = some (.cells #[.int .i64 a, .int .i64 b, .int .i64 c, .int .i64 d, .int .u64 0, .int .i64 0, .slice none 0 0] 56 (0, 0))) := ⟨hX2.out⟩
      have HV4 := hV2
      have HR4 := hR2
      clear hX2 hV2 hR2
      go_wp2_with (fail)
      go_at_call 37
      (with_reducible refine (rrword gr m4 f4 w _ HR4.out).mono ?_)
      rintro e Y4 ⟨hk, p, m5, f5, rfl, hx, hr, hrel⟩
      obtain ⟨Ab, cb, hblk, _, _⟩ := HR4.out.blk
      have hV := Kd.S_mono (Kd.S_keep (Kd.S_types HV4.out hblk (by decide)) hk (fun _ hk => hk.2)) (ok' := fun k => k < gx) (fun _ hk => hk.1)
      have hX := hk.blk HX4.out x3 (by simp)
      have HE5 := Aside0.mk hrel
      clear HV4 HR4 HX4 hblk
      have hcx : Y4.cell? ⟨gx, 4, none⟩ = some (.int .u64 0) := (blk_cell hX 4).trans rfl
      have hfx := blk_frozen hX 4
      have hX2 := Aside0.mk (blk_set hX 4 (.int .u64 (p : Int)))
      have hV2 := Aside0.mk (Kd.S_far hV (p := ⟨gx, 4, none⟩) (fun k hk => Nat.ne_of_lt hk) (.int .u64 (p : Int)))
      have hR2 := Aside0.mk (hr.other x3 XG.out 4 (.int .u64 (p : Int)))
      clear hX hV hr hk hrel
      go_upto_region 13 with (fail)
      clear hcx hfx
      generalize Y4.setCell ⟨gx, 4, none⟩ (.int .u64 (p : Int)) = X5 at *
      have HX5 : Aside0 (X5.heap[gx]? = some (.cells #[.int .i64 a, .int .i64 b, .int .i64 c, .int .i64 d, .int .u64 (p : Int), .int .i64 0, .slice none 0 0] 56 (0, 0))) := ⟨hX2.out⟩
      have HV5 := hV2
      have HR5 := hR2
      clear hX2 hV2 hR2
      go_wp2_with (fail)
      go_at_call 36
      (with_reducible refine (rrnum gr m5 f5 w _ HR5.out).mono ?_)
      rintro e Y5 ⟨hk, q, m6, f6, rfl, hr, hrel⟩
      obtain ⟨Ab, cb, hblk, _, _⟩ := HR5.out.blk
      have hV := Kd.S_mono (Kd.S_keep (Kd.S_types HV5.out hblk (by decide)) hk (fun _ hk => hk.2)) (ok' := fun k => k < gx) (fun _ hk => hk.1)
      have hX := hk.blk HX5.out x3 (by simp)
      have HE6 := Aside0.mk hrel
      clear HV5 HR5 HX5 hblk
      have hcx : Y5.cell? ⟨gx, 5, none⟩ = some (.int .i64 0) := (blk_cell hX 5).trans rfl
      have hfx := blk_frozen hX 5
      have hX2 := Aside0.mk (blk_set hX 5 (.int .i64 q))
      have hV2 := Aside0.mk (Kd.S_far hV (p := ⟨gx, 5, none⟩) (fun k hk => Nat.ne_of_lt hk) (.int .i64 q))
      have hR2 := Aside0.mk (hr.other x3 XG.out 5 (.int .i64 q))
      clear hX hV hr hk hrel
      go_upto_region 14 with (fail)
      clear hcx hfx
      generalize Y5.setCell ⟨gx, 5, none⟩ (.int .i64 q) = X6 at *
      have HX6 : Aside0 (X6.heap[gx]? = some (.cells #[.int .i64 a, .int .i64 b, .int .i64 c, .int .i64 d, .int .u64 (p : Int), .int .i64 q, .slice none 0 0] 56 (0, 0))) := ⟨hX2.out⟩
      have HV6 := hV2
      have HR6 := hR2
      clear hX2 hV2 hR2
      go_wp2_with (fail)
      go_at_call 39
      obtain ⟨b9, hb9⟩ : ∃ b9, b9 = X6.heap.size := ⟨_, rfl⟩
      have HXB := Aside0.mk (show gx < b9 from hb9 ▸ blk_sz HX6.out)
      (with_reducible refine (rrlist gr m6 f6 w _ HR6.out).mono ?_)
      rintro e Y6 ⟨hk, z, m7, f7, vz, rfl, hvz, hr, hrel⟩
      obtain ⟨Ab, cb, hblk, _, _⟩ := HR6.out.blk
      have hV := Kd.S_mono (Kd.S_keep (Kd.S_types HV6.out hblk (by decide)) hk (fun _ hk => hk.2)) (ok' := fun k => k < gx) (fun _ hk => hk.1)
      have hX := hk.blk HX6.out x3 (by simp)
      have HE7 := Aside0.mk hrel
      clear HV6 HR6 HX6 hblk
      obtain ⟨Az, cz, rfl⟩ := Kd.R_slice hvz
      rw [← hb9] at hvz
      have hcx : Y6.cell? ⟨gx, 6, none⟩ = some (.slice none 0 0) := (blk_cell hX 6).trans rfl
      have hfx := blk_frozen hX 6
      have hvz2 := Aside0.mk (Kd.R_far (Kd.R_bound hvz) (p := ⟨gx, 6, none⟩) (fun k hk => by have := hk.2.1; have := HXB.out; show k ≠ gx; omega) (.slice Az z.length cz))
      clear hvz
      have hX2 := Aside0.mk (blk_set hX 6 (.slice Az z.length cz))
      have hV2 := Aside0.mk (Kd.S_far hV (p := ⟨gx, 6, none⟩) (fun k hk => Nat.ne_of_lt hk) (.slice Az z.length cz))
      have hR2 := Aside0.mk (hr.other x3 XG.out 6 (.slice Az z.length cz))
      clear hX hV hr hk hrel
      go_upto_region 15 with (fail)
      clear hcx hfx
      generalize Y6.setCell ⟨gx, 6, none⟩ (.slice Az z.length cz) = X7 at *
      have HX7 : Aside0 (X7.heap[gx]? = some (.cells #[.int .i64 a, .int .i64 b, .int .i64 c, .int .i64 d, .int .u64 (p : Int), .int .i64 q, .slice Az z.length cz] 56 (0, 0))) := ⟨hX2.out⟩
      have HV7 := hV2
      have HR7 := hR2
      clear hX2 hV2 hR2
      have hc0 : X7.cell? ⟨gx, 0, none⟩ = some (.int .i64 a) := (blk_cell HX7.out 0).trans rfl
      have hc1 : X7.cell? ⟨gx, 1, none⟩ = some (.int .i64 b) := (blk_cell HX7.out 1).trans rfl
      have hc2 : X7.cell? ⟨gx, 2, none⟩ = some (.int .i64 c) := (blk_cell HX7.out 2).trans rfl
      have hc3 : X7.cell? ⟨gx, 3, none⟩ = some (.int .i64 d) := (blk_cell HX7.out 3).trans rfl
      have hc4 : X7.cell? ⟨gx, 4, none⟩ = some (.int .u64 (p : Int)) := (blk_cell HX7.out 4).trans rfl
      have hc5 : X7.cell? ⟨gx, 5, none⟩ = some (.int .i64 q) := (blk_cell HX7.out 5).trans rfl
      have hc6 : X7.cell? ⟨gx, 6, none⟩ = some (.slice Az z.length cz) := (blk_cell HX7.out 6).trans rfl
      have HUn := Aside0.mk (show Up2 (finP (acc ++ [(⟨a, b, c, d, (p : Int), q, z⟩ : S56)]) (evsP (n - (i + 1)) m7) = unlogP l0) (unlogP l0) f7 from by
        rcases ev_chain HE1.out HE2.out HE3.out HE4.out HE5.out HE6.out HE7.out with ⟨h1, h2⟩ | ⟨h1, h2⟩
        · exact .inl ⟨h1, (evs_next hlt h2).symm.trans HF.out⟩
        · exact .inr ⟨h1, HF.out.symm.trans (evs_err hlt h2)⟩)
      have HLL := Aside0.mk (show (acc ++ [(⟨a, b, c, d, (p : Int), q, z⟩ : S56)]).length = i + 1 by rw [List.length_append, HL.out]; rfl)
      have HWX := Aside0.mk (show w.heap.size ≤ X7.heap.size ∧ gx < X7.heap.size from ⟨HR7.out.below.size, blk_sz HX7.out⟩)
      have HM := Aside0.mk (k56_mkM X7 w.heap.size (fun k => b9 ≤ k) (⟨a, b, c, d, (p : Int), q, z⟩ : S56) (Kd.R_lower (Kd.R_mono hvz2.out (fun k hk => hk.2.1)) (by have := XG.out; have := HXB.out; omega)))
      have HO := Aside0.mk (fun k hk => (Kd.S_R HV7.out).1 k hk)
      go_wp2_with (first | ((with_reducible refine gate_builtin (b := .append) (xs := #[.tmp 48, .tmp 50]) rfl ?_); at_builtin; refine Kd.S_append k56 (w0 := X7) w.heap.size rfl (.tmp 48) (.tmp 50) 29 56 (.agg #[.int .i64 0, .int .i64 0, .int .i64 0, .int .i64 0, .int .u64 0, .int .i64 0, .slice none 0 0]) 72 rfl Try.underlying29 (by kernel_rfl) rfl (by decide) (by decide) (.slice A3 acc.length c3) acc (⟨a, b, c, d, (p : Int), q, z⟩ : S56) _ (fun _ => True) (fun k => b9 ≤ k) rfl rfl HM.out (fun k hk => ⟨trivial, fun he => by have h1 : k < gx := HO.out k he.symm; have h2 : b9 ≤ k := hk; have := HXB.out; omega⟩) (fun _ _ => trivial) (Kd.S_mono HV7.out (fun k hk => ⟨trivial, by have h3 : k < gx := hk; have := HXB.out; omega⟩)) (Below.refl _ _) HWX.out.1 (by have := HL.out; have := HN.out; omega) ?_; intro v1 w1 hS1 hb1 hg1 hat1))
      go_roundg g
      case measure => omega
      case rel =>
        have hbase := fun k hk => Kd.S_base HV7.out k hk
        have hn9 := HN.out
        obtain ⟨A9, c9, hblk2, _, _⟩ := HR7.out.blk
        exact ⟨i + 1, acc ++ [(⟨a, b, c, d, (p : Int), q, z⟩ : S56)], m7, f7, by omega, by omega, by first | rfl | rw [wrap_succ i (by omega)], HLL, ⟨hS1⟩, ⟨HR7.out.grown hg1 (fun k hk => ⟨hbase k hk, fun e => Kd.R_ne (Kd.S_R HV7.out) hblk2 (by decide) (e ▸ hk.symm)⟩)⟩, HUn⟩
    · have c1b : e' = 0 → decide ((i : Int) < (n : Int)) = false := fun h => decide_eq_false (by omega)
      by_cases he : e' = 0
      · subst he
        have c2b : decide ((i : Int) < (n : Int)) = false := c1b rfl
        have HF := Aside0.mk (show finP acc (evsP 0 l') = unlogP l0 from by
          rcases HU.out with ⟨_, h⟩ | ⟨h, _⟩
          · rw [show n - i = 0 by omega] at h; exact h
          · exact absurd rfl h)
        clear HU
        go_wp2_with (fail)
        go_at_call 40
        (with_reducible refine (rrover gr l' 0 w _ HR.out).mono ?_)
        rintro e W9 ⟨hk, e9, rfl, hr, hrel⟩
        obtain ⟨Ab, cb, hblk, _, _⟩ := HR.out.blk
        have HV9 := Aside0.mk (Kd.S_mono (Kd.S_keep (Kd.S_types HV.out hblk (by decide)) hk (fun _ hk => hk.2)) (ok' := fun _ => True) (fun _ _ => trivial))
        rcases hrel with ⟨_, ⟨hl, h9⟩ | ⟨hl, h9⟩⟩ | ⟨h0, _⟩
        · subst h9
          have HB := Aside0.mk hr.below
          obtain ⟨q1, q2⟩ := outp_ok H.out (HF.out.symm.trans (show finP acc (evsP 0 l') = .ok acc by rw [hl]; simp [evsP, finP]))
          have HQ1 := Aside0.mk q1
          have HQ2 := Aside0.mk q2
          clear q1 q2 hr hk hl HF hblk
          go_wp2_with (fail)
          go_ret2
          exact ⟨_, by rw [HQ2.out]; rfl, by rw [HQ1.out]; exact HV9.out, HB.out⟩
        · have HT := Aside0.mk (show unlogP l0 = .error e9 from HF.out.symm.trans (by rw [h9]; cases l' with | nil => exact absurd rfl hl | cons c r => rfl))
          have h9' : e9 ≠ 0 := by rw [h9]; decide
          clear h9 hl HF hblk hk
          obtain ⟨hc9, hf9⟩ := hr.e1
          have HR9 := Aside0.mk hr
          clear hr
          go_upto_region 17 with (fail)
          refine start_ (n := 6) (S := fun wc => wc.cell? ⟨gr, 1, none⟩ = some (.int .i64 e9)) (ds := []) #[false, false, false, false, false, false] (by kernel_rfl) rfl rfl ((HR9.out.step (below_drew (Below.refl _ _))).e1.1) (fun hS => ?_)
          refine pure_ (i := 0) (N := some 55) (v := ?_) (a' := ?_) #[true, false, false, false, false, false] rfl rfl (by kernel_rfl) (fun _ _ _ h => h) (Or.inl ⟨by rfl, ?_⟩) ?_ ?_
          rotate_left
          · intro w'
            go_simp
            try (with_reducible rfl)
          rotate_left
          · simp only [Act.put, List.setIfInBounds_toArray, List.set_cons_zero, List.set_cons_succ]
            rfl
          refine pure_ (i := 1) (N := some 56) (v := ?_) (a' := ?_) #[true, true, false, false, false, false] rfl rfl (by kernel_rfl) (fun _ _ _ h => h) (Or.inl ⟨by rfl, ?_⟩) ?_ ?_
          rotate_left
          · intro w'
            go_simp
            try (with_reducible rfl)
          rotate_left
          · simp only [Act.put, List.setIfInBounds_toArray, List.set_cons_zero, List.set_cons_succ]
            rfl
          refine pure_ (i := 2) (N := some 57) (v := ?_) (a' := ?_) #[true, true, true, false, false, false] rfl rfl (by kernel_rfl) (fun _ _ _ h => h) (Or.inl ⟨by rfl, ?_⟩) ?_ ?_
          rotate_left
          · intro w'
            go_simp
            try (with_reducible rfl)
          rotate_left
          · simp only [Act.put, List.setIfInBounds_toArray, List.set_cons_zero, List.set_cons_succ]
            rfl
          refine take_ (i := 3) (N := some 58) (v := ?_) (a' := ?_) #[true, true, true, true, false, false] rfl rfl (by kernel_rfl) (fun _ _ _ h => h) (Or.inl ⟨by rfl, ?_⟩) hS ?_ ?_
          rotate_left
          · intro w' hw
            simp [go_sem, hw]
            try (with_reducible rfl)
          rotate_left
          · simp only [Act.put, List.setIfInBounds_toArray, List.set_cons_zero, List.set_cons_succ]
            rfl
          refine pure_ (i := 4) (N := some 2) (v := ?_) (a' := ?_) #[true, true, true, true, true, false] rfl rfl (by kernel_rfl) (fun _ _ _ h => h) (Or.inl ⟨by rfl, ?_⟩) ?_ ?_
          rotate_left
          · intro w'
            go_simp
            try (with_reducible rfl)
          rotate_left
          · simp only [Act.put, List.setIfInBounds_toArray, List.set_cons_zero, List.set_cons_succ]
            rfl
          refine pure_ (i := 5) (N := some 3) (v := ?_) (a' := ?_) #[true, true, true, true, true, true] rfl rfl (by kernel_rfl) (fun _ _ _ h => h) (Or.inl ⟨by rfl, ?_⟩) ?_ ?_
          rotate_left
          · intro w'
            go_simp
            try (with_reducible rfl)
          rotate_left
          · simp only [Act.put, List.setIfInBounds_toArray, List.set_cons_zero, List.set_cons_succ]
            rfl
          refine done_ (by kernel_rfl) ?_
          go_wp2_with (fail)
          go_ret2
          obtain ⟨rfl, rfl⟩ := outp_err H.out HT.out
          exact ⟨_, rfl, Kd.S_nil _ _ _ _ _, (HR9.out.step (below_drew (Below.refl _ _))).below⟩
        · exact absurd rfl h0
      · have HT0 := Aside0.mk (show unlogP l0 = .error e' from by
          rcases HU.out with ⟨h, _⟩ | ⟨_, h⟩
          · exact absurd h he
          · exact h)
        clear HU
        by_cases hlt : i < n
        · have c2b : decide ((i : Int) < (n : Int)) = true := decide_eq_true (by omega)
          go_wp2_with (fail)
          go_at_call 40
          (with_reducible refine (rrover gr l' e' w _ HR.out).mono ?_)
          rintro e W9 ⟨hk, e9, rfl, hr, ⟨h0, _⟩ | ⟨_, h9⟩⟩
          · exact absurd h0 he
          have HT := Aside0.mk (show unlogP l0 = .error e9 by rw [h9]; exact HT0.out)
          have h9' : e9 ≠ 0 := by rw [h9]; exact he
          clear h9 hk hc1 hf1
          obtain ⟨hc9, hf9⟩ := hr.e1
          have HR9 := Aside0.mk hr
          clear hr
          go_upto_region 17 with (fail)
          refine start_ (n := 6) (S := fun wc => wc.cell? ⟨gr, 1, none⟩ = some (.int .i64 e9)) (ds := []) #[false, false, false, false, false, false] (by kernel_rfl) rfl rfl ((HR9.out.step (below_drew (Below.refl _ _))).e1.1) (fun hS => ?_)
          refine pure_ (i := 0) (N := some 55) (v := ?_) (a' := ?_) #[true, false, false, false, false, false] rfl rfl (by kernel_rfl) (fun _ _ _ h => h) (Or.inl ⟨by rfl, ?_⟩) ?_ ?_
          rotate_left
          · intro w'
            go_simp
            try (with_reducible rfl)
          rotate_left
          · simp only [Act.put, List.setIfInBounds_toArray, List.set_cons_zero, List.set_cons_succ]
            rfl
          refine pure_ (i := 1) (N := some 56) (v := ?_) (a' := ?_) #[true, true, false, false, false, false] rfl rfl (by kernel_rfl) (fun _ _ _ h => h) (Or.inl ⟨by rfl, ?_⟩) ?_ ?_
          rotate_left
          · intro w'
            go_simp
            try (with_reducible rfl)
          rotate_left
          · simp only [Act.put, List.setIfInBounds_toArray, List.set_cons_zero, List.set_cons_succ]
            rfl
          refine pure_ (i := 2) (N := some 57) (v := ?_) (a' := ?_) #[true, true, true, false, false, false] rfl rfl (by kernel_rfl) (fun _ _ _ h => h) (Or.inl ⟨by rfl, ?_⟩) ?_ ?_
          rotate_left
          · intro w'
            go_simp
            try (with_reducible rfl)
          rotate_left
          · simp only [Act.put, List.setIfInBounds_toArray, List.set_cons_zero, List.set_cons_succ]
            rfl
          refine take_ (i := 3) (N := some 58) (v := ?_) (a' := ?_) #[true, true, true, true, false, false] rfl rfl (by kernel_rfl) (fun _ _ _ h => h) (Or.inl ⟨by rfl, ?_⟩) hS ?_ ?_
          rotate_left
          · intro w' hw
            simp [go_sem, hw]
            try (with_reducible rfl)
          rotate_left
          · simp only [Act.put, List.setIfInBounds_toArray, List.set_cons_zero, List.set_cons_succ]
            rfl
          refine pure_ (i := 4) (N := some 2) (v := ?_) (a' := ?_) #[true, true, true, true, true, false] rfl rfl (by kernel_rfl) (fun _ _ _ h => h) (Or.inl ⟨by rfl, ?_⟩) ?_ ?_
          rotate_left
          · intro w'
            go_simp
            try (with_reducible rfl)
          rotate_left
          · simp only [Act.put, List.setIfInBounds_toArray, List.set_cons_zero, List.set_cons_succ]
            rfl
          refine pure_ (i := 5) (N := some 3) (v := ?_) (a' := ?_) #[true, true, true, true, true, true] rfl rfl (by kernel_rfl) (fun _ _ _ h => h) (Or.inl ⟨by rfl, ?_⟩) ?_ ?_
          rotate_left
          · intro w'
            go_simp
            try (with_reducible rfl)
          rotate_left
          · simp only [Act.put, List.setIfInBounds_toArray, List.set_cons_zero, List.set_cons_succ]
            rfl
          refine done_ (by kernel_rfl) ?_
          go_wp2_with (fail)
          go_ret2
          obtain ⟨rfl, rfl⟩ := outp_err H.out HT.out
          exact ⟨_, rfl, Kd.S_nil _ _ _ _ _, (HR9.out.step (below_drew (Below.refl _ _))).below⟩
        · have c2b : decide ((i : Int) < (n : Int)) = false := decide_eq_false (by omega)
          go_wp2_with (fail)
          go_at_call 40
          (with_reducible refine (rrover gr l' e' w _ HR.out).mono ?_)
          rintro e W9 ⟨hk, e9, rfl, hr, ⟨h0, _⟩ | ⟨_, h9⟩⟩
          · exact absurd h0 he
          have HT := Aside0.mk (show unlogP l0 = .error e9 by rw [h9]; exact HT0.out)
          have h9' : e9 ≠ 0 := by rw [h9]; exact he
          clear h9 hk hc1 hf1
          obtain ⟨hc9, hf9⟩ := hr.e1
          have HR9 := Aside0.mk hr
          clear hr
          go_upto_region 17 with (fail)
          refine start_ (n := 6) (S := fun wc => wc.cell? ⟨gr, 1, none⟩ = some (.int .i64 e9)) (ds := []) #[false, false, false, false, false, false] (by kernel_rfl) rfl rfl ((HR9.out.step (below_drew (Below.refl _ _))).e1.1) (fun hS => ?_)
          refine pure_ (i := 0) (N := some 55) (v := ?_) (a' := ?_) #[true, false, false, false, false, false] rfl rfl (by kernel_rfl) (fun _ _ _ h => h) (Or.inl ⟨by rfl, ?_⟩) ?_ ?_
          rotate_left
          · intro w'
            go_simp
            try (with_reducible rfl)
          rotate_left
          · simp only [Act.put, List.setIfInBounds_toArray, List.set_cons_zero, List.set_cons_succ]
            rfl
          refine pure_ (i := 1) (N := some 56) (v := ?_) (a' := ?_) #[true, true, false, false, false, false] rfl rfl (by kernel_rfl) (fun _ _ _ h => h) (Or.inl ⟨by rfl, ?_⟩) ?_ ?_
          rotate_left
          · intro w'
            go_simp
            try (with_reducible rfl)
          rotate_left
          · simp only [Act.put, List.setIfInBounds_toArray, List.set_cons_zero, List.set_cons_succ]
            rfl
          refine pure_ (i := 2) (N := some 57) (v := ?_) (a' := ?_) #[true, true, true, false, false, false] rfl rfl (by kernel_rfl) (fun _ _ _ h => h) (Or.inl ⟨by rfl, ?_⟩) ?_ ?_
          rotate_left
          · intro w'
            go_simp
            try (with_reducible rfl)
          rotate_left
          · simp only [Act.put, List.setIfInBounds_toArray, List.set_cons_zero, List.set_cons_succ]
            rfl
          refine take_ (i := 3) (N := some 58) (v := ?_) (a' := ?_) #[true, true, true, true, false, false] rfl rfl (by kernel_rfl) (fun _ _ _ h => h) (Or.inl ⟨by rfl, ?_⟩) hS ?_ ?_
          rotate_left
          · intro w' hw
            simp [go_sem, hw]
            try (with_reducible rfl)
          rotate_left
          · simp only [Act.put, List.setIfInBounds_toArray, List.set_cons_zero, List.set_cons_succ]
            rfl
          refine pure_ (i := 4) (N := some 2) (v := ?_) (a' := ?_) #[true, true, true, true, true, false] rfl rfl (by kernel_rfl) (fun _ _ _ h => h) (Or.inl ⟨by rfl, ?_⟩) ?_ ?_
          rotate_left
          · intro w'
            go_simp
            try (with_reducible rfl)
          rotate_left
          · simp only [Act.put, List.setIfInBounds_toArray, List.set_cons_zero, List.set_cons_succ]
            rfl
          refine pure_ (i := 5) (N := some 3) (v := ?_) (a' := ?_) #[true, true, true, true, true, true] rfl rfl (by kernel_rfl) (fun _ _ _ h => h) (Or.inl ⟨by rfl, ?_⟩) ?_ ?_
          rotate_left
          · intro w'
            go_simp
            try (with_reducible rfl)
          rotate_left
          · simp only [Act.put, List.setIfInBounds_toArray, List.set_cons_zero, List.set_cons_succ]
            rfl
          refine done_ (by kernel_rfl) ?_
          go_wp2_with (fail)
          go_ret2
          obtain ⟨rfl, rfl⟩ := outp_err H.out HT.out
          exact ⟨_, rfl, Kd.S_nil _ _ _ _ _, (HR9.out.step (below_drew (Below.refl _ _))).below⟩
end Go.Proofs.Ytoobhpgkecplmaa.QPackReads
