/- Lemmas: what functions of package pack compute, by hand. No conditions but those that the theorems name. -/
import Derived.Test.YtoobhpgkecplmaaRru
import Derived.WalkSmall
namespace Go.Proofs.Ytoobhpgkecplmaa.QPackReads
open Go Go.RowKit Go.Proofs.YtoobhpgkecplmaaW.PrintWords Go.Proofs.YtoobhpgkecplmaaW.PrintLast Go.Proofs.YtoobhpgkecplmaaW.PrintMore
attribute [local go_sem] max2_int min2_int max_two min_two max_three min_three max_four min_four
set_option linter.unusedVariables false
set_option linter.unusedSimpArgs false
theorem hd_chain {l0 l1 l2 l3 l4 l5 l6 : List Int} {e1 e2 e3 e4 e5 e6 : Int} {a : Int} {b : Int} {c : Int} {d : Int} {p : Nat} {n : Nat} (r1 : Rel numP l0 0 a l1 e1) (r2 : Rel numP l1 e1 b l2 e2) (r3 : Rel numP l2 e2 c l3 e3) (r4 : Rel numP l3 e3 d l4 e4) (r5 : Rel wordP l4 e4 p l5 e5) (r6 : Rel (manyP 256) l5 e5 n l6 e6) : Up2 (finU a b c d (p : Int) [] (listsP (n - 0) l6) = unscriptP l0) (unscriptP l0) e6 := by
  rcases rel_ok r1 with ⟨h1, k1⟩ | ⟨h1, k1⟩
  rotate_left
  · have g1 := h1
    have q2 := rel_err r2 g1
    have g2 : e2 ≠ 0 := by rw [q2]; exact g1
    have q3 := rel_err r3 g2
    have g3 : e3 ≠ 0 := by rw [q3]; exact g2
    have q4 := rel_err r4 g3
    have g4 : e4 ≠ 0 := by rw [q4]; exact g3
    have q5 := rel_err r5 g4
    have g5 : e5 ≠ 0 := by rw [q5]; exact g4
    have q6 := rel_err r6 g5
    have g6 : e6 ≠ 0 := by rw [q6]; exact g5
    have qq : e6 = e1 := by rw [q6, q5, q4, q3, q2]
    refine .inr ⟨g6, ?_⟩
    rw [qq]
    simp only [unscriptP, k1]
  subst h1
  rcases rel_ok r2 with ⟨h2, k2⟩ | ⟨h2, k2⟩
  rotate_left
  · have g2 := h2
    have q3 := rel_err r3 g2
    have g3 : e3 ≠ 0 := by rw [q3]; exact g2
    have q4 := rel_err r4 g3
    have g4 : e4 ≠ 0 := by rw [q4]; exact g3
    have q5 := rel_err r5 g4
    have g5 : e5 ≠ 0 := by rw [q5]; exact g4
    have q6 := rel_err r6 g5
    have g6 : e6 ≠ 0 := by rw [q6]; exact g5
    have qq : e6 = e2 := by rw [q6, q5, q4, q3]
    refine .inr ⟨g6, ?_⟩
    rw [qq]
    simp only [unscriptP, k1, k2]
  subst h2
  rcases rel_ok r3 with ⟨h3, k3⟩ | ⟨h3, k3⟩
  rotate_left
  · have g3 := h3
    have q4 := rel_err r4 g3
    have g4 : e4 ≠ 0 := by rw [q4]; exact g3
    have q5 := rel_err r5 g4
    have g5 : e5 ≠ 0 := by rw [q5]; exact g4
    have q6 := rel_err r6 g5
    have g6 : e6 ≠ 0 := by rw [q6]; exact g5
    have qq : e6 = e3 := by rw [q6, q5, q4]
    refine .inr ⟨g6, ?_⟩
    rw [qq]
    simp only [unscriptP, k1, k2, k3]
  subst h3
  rcases rel_ok r4 with ⟨h4, k4⟩ | ⟨h4, k4⟩
  rotate_left
  · have g4 := h4
    have q5 := rel_err r5 g4
    have g5 : e5 ≠ 0 := by rw [q5]; exact g4
    have q6 := rel_err r6 g5
    have g6 : e6 ≠ 0 := by rw [q6]; exact g5
    have qq : e6 = e4 := by rw [q6, q5]
    refine .inr ⟨g6, ?_⟩
    rw [qq]
    simp only [unscriptP, k1, k2, k3, k4]
  subst h4
  rcases rel_ok r5 with ⟨h5, k5⟩ | ⟨h5, k5⟩
  rotate_left
  · have g5 := h5
    have q6 := rel_err r6 g5
    have g6 : e6 ≠ 0 := by rw [q6]; exact g5
    have qq : e6 = e5 := by rw [q6]
    refine .inr ⟨g6, ?_⟩
    rw [qq]
    simp only [unscriptP, k1, k2, k3, k4, k5]
  subst h5
  rcases rel_ok r6 with ⟨h6, k6⟩ | ⟨h6, k6⟩
  rotate_left
  · have g6 := h6
    have qq : e6 = e6 := rfl
    refine .inr ⟨g6, ?_⟩
    rw [qq]
    simp only [unscriptP, k1, k2, k3, k4, k5, k6]
  subst h6
  refine .inl ⟨rfl, ?_⟩
  simp only [unscriptP, Nat.sub_zero, k1, k2, k3, k4, k5, k6]
theorem mid_chain {a b c d p e1 e2 : Int} {acc : List (List Int)} {l l1 l0 : List Int} {m : Nat} (h : Up2 (finU a b c d p acc (.ok ([], l)) = unscriptP l0) (unscriptP l0) e1) (r : Rel (manyP 4096) l e1 m l1 e2) : Up2 (finA a b c d p acc [] (actsP (m - 0) l1) = unscriptP l0) (unscriptP l0) e2 := by
  rcases h with ⟨rfl, h⟩ | ⟨h0, h⟩
  · rcases rel_ok r with ⟨h1, h2⟩ | ⟨h1, h2⟩
    · exact .inl ⟨h1, by rw [← h]; simp only [finU, h2, List.append_nil, Nat.sub_zero]⟩
    · exact .inr ⟨h1, by rw [← h]; simp only [finU, h2]⟩
  · have := rel_err r h0
    exact .inr ⟨by rw [this]; exact h0, by rw [this]; exact h⟩
structure Uq (w : World) (gq gc gr : Nat) (ok : Nat → Prop) (W : World) (h0 h1 h2 h3 h4 vu : Value) (up : List (List Int)) : Prop where
  g1 : w.heap.size ≤ gq
  g2 : w.heap.size ≤ gc
  n1 : gc ≠ gq
  n2 : gc ≠ gr
  n3 : gq ≠ gr
  bc : W.heap[gc]? = some (.cells #[h0, h1, h2, h3, h4, vu] 25 (0, 0))
  bq : W.heap[gq]? = some (.cells #[.int .i64 0, .int .i64 0, .int .i64 0, .int .i64 0, .int .u64 0, .slice none 0 0] 25 (0, 0))
  S : Kd.S kU 50 W w.heap.size ok vu up
section
variable {w W W' : World} {gq gc gr gx : Nat} {ok ok' : Nat → Prop} {h0 h1 h2 h3 h4 h0' h1' h2' h3' h4' vu v1 : Value} {up up1 : List (List Int)} {l : List Int} {e : Int}
theorem Uq.below (h : Uq w gq gc gr ok W h0 h1 h2 h3 h4 vu up) (hb : Below W.heap.size W W') : Uq w gq gc gr ok W' h0 h1 h2 h3 h4 vu up :=
  ⟨h.g1, h.g2, h.n1, h.n2, h.n3, (hb.block _ (blk_sz h.bc)).trans h.bc, (hb.block _ (blk_sz h.bq)).trans h.bq, Kd.S_below h.S hb⟩
theorem Uq.keep (h : Uq w gq gc gr ok W h0 h1 h2 h3 h4 vu up) (hR : Rs w gr W l e) (hk : KeepBut W W' gr none) : Uq w gq gc gr ok W' h0 h1 h2 h3 h4 vu up := by
  obtain ⟨A, c, k1, _, _⟩ := hR.blk
  exact ⟨h.g1, h.g2, h.n1, h.n2, h.n3, hk.blk h.bc h.n2 (by simp), hk.blk h.bq h.n3 (by simp), Kd.S_mono (Kd.S_keep (Kd.S_types h.S k1 (by decide)) hk (fun _ hk => hk.2)) (fun _ hk => hk.1)⟩
theorem Uq.mono (h : Uq w gq gc gr ok W h0 h1 h2 h3 h4 vu up) (hu : ∀ k, ok k → ok' k) : Uq w gq gc gr ok' W h0 h1 h2 h3 h4 vu up := ⟨h.g1, h.g2, h.n1, h.n2, h.n3, h.bc, h.bq, Kd.S_mono h.S hu⟩
theorem Uq.bound (h : Uq w gq gc gr ok W h0 h1 h2 h3 h4 vu up) : Uq w gq gc gr (fun k => ok k ∧ k < W.heap.size) W h0 h1 h2 h3 h4 vu up := ⟨h.g1, h.g2, h.n1, h.n2, h.n3, h.bc, h.bq, Kd.S_mono (Kd.S_bound h.S) (fun _ hk => ⟨hk.1, hk.2.2.1⟩)⟩
theorem Uq.far (h : Uq w gq gc gr ok W h0 h1 h2 h3 h4 vu up) (e1 : gx ≠ gc) (e2 : gx ≠ gq) (hu : ∀ k, ok k → k ≠ gx) (j : Nat) (u : Value) : Uq w gq gc gr ok (W.setCell ⟨gx, j, none⟩ u) h0 h1 h2 h3 h4 vu up :=
  ⟨h.g1, h.g2, h.n1, h.n2, h.n3, (Below.heap_setCell W ⟨gx, j, none⟩ u gc (fun e => e1 e.symm)).trans h.bc, (Below.heap_setCell W ⟨gx, j, none⟩ u gq (fun e => e2 e.symm)).trans h.bq, Kd.S_far h.S (p := ⟨gx, j, none⟩) hu u⟩
theorem Uq.put (h : Uq w gq gc gr ok W h0 h1 h2 h3 h4 vu up) (j : Nat) (u : Value) (e : (#[h0, h1, h2, h3, h4, vu] : Array Value).setIfInBounds j u = #[h0', h1', h2', h3', h4', vu]) : Uq w gq gc gr ok (W.setCell ⟨gc, j, none⟩ u) h0' h1' h2' h3' h4' vu up :=
  ⟨h.g1, h.g2, h.n1, h.n2, h.n3, e ▸ blk_set h.bc j u, (Below.heap_setCell W ⟨gc, j, none⟩ u gq (fun e => h.n1 e.symm)).trans h.bq, Kd.S_set h.S h.bc (by decide) j u⟩
theorem Uq.push (h : Uq w gq gc gr ok W h0 h1 h2 h3 h4 vu up) (hg : W.grownBy W' vu.ownBlock) (hS : Kd.S kU 50 W' w.heap.size ok' v1 up1) : Uq w gq gc gr ok' (W'.setCell ⟨gc, 5, none⟩ v1) h0 h1 h2 h3 h4 v1 up1 := by
  have hbc := (hg.block _ (blk_sz h.bc) (Kd.R_ne (Kd.S_R h.S) h.bc (by decide))).trans h.bc
  have hbq := (hg.block _ (blk_sz h.bq) (Kd.R_ne (Kd.S_R h.S) h.bq (by decide))).trans h.bq
  exact ⟨h.g1, h.g2, h.n1, h.n2, h.n3, blk_set hbc 5 v1, (Below.heap_setCell W' ⟨gc, 5, none⟩ v1 gq (fun e => h.n1 e.symm)).trans hbq, Kd.S_set hS hbc (by decide) 5 v1⟩
theorem Uq.rd (h : Uq w gq gc gr ok W h0 h1 h2 h3 h4 vu up) (hR : Rs w gr W l e) (hg : W.grownBy W' vu.ownBlock) : Rs w gr (W'.setCell ⟨gc, 5, none⟩ v1) l e := by
  obtain ⟨A, c, e1, _, _⟩ := hR.blk
  refine (hR.grown hg (fun k hk => ⟨Kd.S_base h.S k hk, fun e => ?_⟩)).other h.n2 h.g2 5 v1
  subst e
  exact Kd.R_ne (Kd.S_R h.S) e1 (by decide) hk.symm
theorem Uq.over (h : Uq w gq gc gr ok W h0 h1 h2 h3 h4 vu up) {va : Value} {acc : List S54} (hA : Kd.S k54 54 W w.heap.size ok' va acc) (hg : W.grownBy W' va.ownBlock) : Uq w gq gc gr ok W' h0 h1 h2 h3 h4 vu up :=
  ⟨h.g1, h.g2, h.n1, h.n2, h.n3, (hg.block _ (blk_sz h.bc) (Kd.R_ne (Kd.S_R hA) h.bc (by decide))).trans h.bc, (hg.block _ (blk_sz h.bq) (Kd.R_ne (Kd.S_R hA) h.bq (by decide))).trans h.bq, Kd.S_over' h.S (Kd.S_typed hA) (by decide) hg⟩
end
theorem Uq.fin {w W : World} {gq gc gr : Nat} {ok ok' : Nat → Prop} {h0 h1 h2 h3 h4 vu va : Value} {up : List (List Int)} {acc : List S54} (h : Uq w gq gc gr ok W h0 h1 h2 h3 h4 vu up) (hA : Kd.S k54 54 W w.heap.size ok' va acc) (hb : Below w.heap.size w W) :
    (W.setCells gq 0 [h0, h1, h2, h3, h4, vu]).heap[gq]? = some (.cells #[h0, h1, h2, h3, h4, vu] 25 (0, 0)) ∧ Kd.S kU 50 (W.setCells gq 0 [h0, h1, h2, h3, h4, vu]) w.heap.size (fun _ => True) vu up ∧ Kd.S k54 54 (W.setCells gq 0 [h0, h1, h2, h3, h4, vu]) w.heap.size (fun _ => True) va acc ∧ Below w.heap.size w (W.setCells gq 0 [h0, h1, h2, h3, h4, vu]) :=
  ⟨Ivs.stored (new := #[h0, h1, h2, h3, h4, vu]) h.bq rfl, Kd.S_mono (Kd.S_step (Kd.S_types h.S h.bq (by decide)) (fun k hk _ => Ivs.stored_other hk.2 _ 0 W)) (fun _ _ => trivial), Kd.S_mono (Kd.S_step (Kd.S_types hA h.bq (by decide)) (fun k hk _ => Ivs.stored_other hk.2 _ 0 W)) (fun _ _ => trivial), Ivs.below_stored (g := gq) _ 0 _ hb h.g1⟩
theorem uq_res {tmps : Array Value} {gq : Nat} {v0 v1 v2 v3 v4 v5 x3 x4 : Value} {W : World} (h2 : tmps[2]? = some (.pointer (some ⟨gq, 0, none⟩))) (h3 : tmps[3]? = some x3) (h4 : tmps[4]? = some x4) (hl : W.heap[gq]? = some (.cells #[v0, v1, v2, v3, v4, v5] 25 (0, 0))) :
    (results Try.f15 tmps).run Try.prog W = .ok (.tuple #[.agg #[v0, v1, v2, v3, v4, v5], x3, x4]) W := by
  have e0 : W.cell? ⟨gq, 0, none⟩ = some v0 := (blk_cell hl 0).trans rfl
  have e1 : W.cell? ⟨gq, 1, none⟩ = some v1 := (blk_cell hl 1).trans rfl
  have e2 : W.cell? ⟨gq, 2, none⟩ = some v2 := (blk_cell hl 2).trans rfl
  have e3 : W.cell? ⟨gq, 3, none⟩ = some v3 := (blk_cell hl 3).trans rfl
  have e4 : W.cell? ⟨gq, 4, none⟩ = some v4 := (blk_cell hl 4).trans rfl
  have e5 : W.cell? ⟨gq, 5, none⟩ = some v5 := (blk_cell hl 5).trans rfl
  simp [results, Try.results15, go_sem, h2, h3, h4, e0, e1, e2, e3, e4, e5]
set_option maxHeartbeats 8000000 in
set_option maxRecDepth 100000 in
theorem sakiaref38_Unscript.calls (A0 : Option Addr) (c0 : Nat) (l0 : List Int) (r1 : Scr) (r2 : Int) (w : World) (hr0 : Kd.C (Kd.int .u8) w A0 l0.length l0) (hc0 : l0.length ≤ c0) (h : pack_Unscript.f l0 = some (r1, r2)) :
    Calls Try.prog 15 #[.slice A0 l0.length c0] w fun e w' => ∃ (A5 A6 : Option Addr) (c5 c6 : Nat), e = .returned (.tuple #[.agg #[.int .i64 r1.a, .int .i64 r1.b, .int .i64 r1.c, .int .i64 r1.d, .int .u64 r1.p, .slice A5 r1.up.length c5], .slice A6 r1.acts.length c6, .int .i64 r2]) ∧ Kd.C kU w' A5 r1.up.length r1.up ∧ r1.up.length ≤ c5 ∧ Kd.C k54 w' A6 r1.acts.length r1.acts ∧ r1.acts.length ≤ c6 ∧ Below w.heap.size w w' := by
  have HC0 := Aside0.mk hr0
  have HC1 := Aside0.mk hc0
  have hg : l0.length ≤ 2000000 ∧ (l0.all fun c => decide (0 ≤ c) && decide (c ≤ 255)) = true := by
    unfold pack_Unscript.f at h
    split at h
    · assumption
    · cases h
  unfold pack_Unscript.f at h
  rw [if_pos hg] at h
  have HG := Aside0.mk hg
  have H := Aside0.mk (Option.some.inj h)
  clear h hg hr0 hc0
  go_enter Try.func15, Try.ntmps15
  go_upto_region 3 with (fail)
  have hb0 := below_alloc (Below.refl w.heap.size w) (.cells #[.int .i64 0, .int .i64 0, .int .i64 0, .int .i64 0, .int .u64 0, .slice none 0 0] 25)
  have hbq := blk_new w (.cells #[.int .i64 0, .int .i64 0, .int .i64 0, .int .i64 0, .int .u64 0, .slice none 0 0] 25)
  generalize hW1 : w.alloc (.cells #[.int .i64 0, .int .i64 0, .int .i64 0, .int .i64 0, .int .u64 0, .slice none 0 0] 25) = W1 at *
  have hs1 : W1.heap.size = w.heap.size + 1 := by rw [← hW1]; simp
  have hb1 : Below W1.heap.size _ _ := below_alloc (Below.refl _ W1) (.cells #[.slice A0 l0.length c0, .int .i64 0] 78)
  have hbr := blk_new W1 (.cells #[.slice A0 l0.length c0, .int .i64 0] 78)
  generalize hW2 : W1.alloc (.cells #[.slice A0 l0.length c0, .int .i64 0] 78) = W2 at *
  have hs2 : W2.heap.size = w.heap.size + 1 + 1 := by rw [← hW2]; simp [hs1]
  have hb2 : Below W2.heap.size _ _ := below_alloc (Below.refl _ W2) (.cells #[.int .i64 0, .int .i64 0, .int .i64 0, .int .i64 0, .int .u64 0, .slice none 0 0] 25)
  have hbc := blk_new W2 (.cells #[.int .i64 0, .int .i64 0, .int .i64 0, .int .i64 0, .int .u64 0, .slice none 0 0] 25)
  rw [hs1] at hbr hb1
  rw [hs2] at hbc hb2
  have hbq2 := (hb2.block w.heap.size (by omega)).trans ((hb1.block w.heap.size (by omega)).trans hbq)
  have hbr2 := (hb2.block (w.heap.size + 1) (by omega)).trans hbr
  have hQ : Uq w w.heap.size (w.heap.size + 1 + 1) (w.heap.size + 1) (fun _ => True) _ (.int .i64 0) (.int .i64 0) (.int .i64 0) (.int .i64 0) (.int .u64 0) (.slice none 0 0) [] := ⟨Nat.le_refl _, by omega, by omega, by omega, by omega, hbc, hbq2, Kd.S_nil _ _ _ _ _⟩
  have hR : Rs w (w.heap.size + 1) _ l0 0 := ⟨fun c hc => by have := List.all_eq_true.1 HG.out.2 c hc; simpa using this, HG.out.1, (hb0.trans (hb1.mono (by omega))).trans (hb2.mono (by omega)), by omega, A0, c0, hbr2, HC0.out, HC1.out⟩
  clear hb0 hbq hb1 hbr hb2 hbc hbq2 hbr2 hs1 hs2 hW1 hW2
  generalize W2.alloc (.cells #[.int .i64 0, .int .i64 0, .int .i64 0, .int .i64 0, .int .u64 0, .slice none 0 0] 25) = W at *
  obtain ⟨gc, hgc⟩ : ∃ gc, gc = w.heap.size + 1 + 1 := ⟨_, rfl⟩
  obtain ⟨gr, hgr⟩ : ∃ gr, gr = w.heap.size + 1 := ⟨_, rfl⟩
  obtain ⟨gq, hgq⟩ : ∃ gq, gq = w.heap.size := ⟨_, rfl⟩
  rw [← hgc] at hQ ⊢
  rw [← hgr] at hQ hR ⊢
  rw [← hgq]
  have hQ : Uq w gq gc gr (fun _ => True) W (.int .i64 0) (.int .i64 0) (.int .i64 0) (.int .i64 0) (.int .u64 0) (.slice none 0 0) [] := by rw [hgq]; exact hQ
  clear hgc hgr hgq
  have HQ0 := Aside0.mk hQ
  have HR0 := Aside0.mk hR
  clear hQ hR
  go_wp2_with (fail)
  go_at_call 36
  (with_reducible refine (rrnum gr l0 0 w _ HR0.out).mono ?_)
  rintro e Y0 ⟨hk, a, m1, f1, rfl, hr, hrel⟩
  have hq := HQ0.out.keep HR0.out hk
  have HE1 := Aside0.mk hrel
  have hcx : Y0.cell? ⟨gc, 0, none⟩ = some (.int .i64 0) := (blk_cell hq.bc 0).trans rfl
  have hfx := blk_frozen hq.bc 0
  have HQ1 := Aside0.mk (hq.put 0 (.int .i64 a) rfl)
  have HR1 := Aside0.mk (hr.other hq.n2 hq.g2 0 (.int .i64 a))
  clear hq hr hk hrel HQ0 HR0
  go_upto_region 4 with (fail)
  clear hcx hfx
  generalize Y0.setCell ⟨gc, 0, none⟩ (.int .i64 a) = X1 at *
  go_wp2_with (fail)
  go_at_call 36
  (with_reducible refine (rrnum gr m1 f1 w _ HR1.out).mono ?_)
  rintro e Y1 ⟨hk, b, m2, f2, rfl, hr, hrel⟩
  have hq := HQ1.out.keep HR1.out hk
  have HE2 := Aside0.mk hrel
  have hcx : Y1.cell? ⟨gc, 1, none⟩ = some (.int .i64 0) := (blk_cell hq.bc 1).trans rfl
  have hfx := blk_frozen hq.bc 1
  have HQ2 := Aside0.mk (hq.put 1 (.int .i64 b) rfl)
  have HR2 := Aside0.mk (hr.other hq.n2 hq.g2 1 (.int .i64 b))
  clear hq hr hk hrel HQ1 HR1
  go_upto_region 5 with (fail)
  clear hcx hfx
  generalize Y1.setCell ⟨gc, 1, none⟩ (.int .i64 b) = X2 at *
  go_wp2_with (fail)
  go_at_call 36
  (with_reducible refine (rrnum gr m2 f2 w _ HR2.out).mono ?_)
  rintro e Y2 ⟨hk, c, m3, f3, rfl, hr, hrel⟩
  have hq := HQ2.out.keep HR2.out hk
  have HE3 := Aside0.mk hrel
  have hcx : Y2.cell? ⟨gc, 2, none⟩ = some (.int .i64 0) := (blk_cell hq.bc 2).trans rfl
  have hfx := blk_frozen hq.bc 2
  have HQ3 := Aside0.mk (hq.put 2 (.int .i64 c) rfl)
  have HR3 := Aside0.mk (hr.other hq.n2 hq.g2 2 (.int .i64 c))
  clear hq hr hk hrel HQ2 HR2
  go_upto_region 6 with (fail)
  clear hcx hfx
  generalize Y2.setCell ⟨gc, 2, none⟩ (.int .i64 c) = X3 at *
  go_wp2_with (fail)
  go_at_call 36
  (with_reducible refine (rrnum gr m3 f3 w _ HR3.out).mono ?_)
  rintro e Y3 ⟨hk, d, m4, f4, rfl, hr, hrel⟩
  have hq := HQ3.out.keep HR3.out hk
  have HE4 := Aside0.mk hrel
  have hcx : Y3.cell? ⟨gc, 3, none⟩ = some (.int .i64 0) := (blk_cell hq.bc 3).trans rfl
  have hfx := blk_frozen hq.bc 3
  have HQ4 := Aside0.mk (hq.put 3 (.int .i64 d) rfl)
  have HR4 := Aside0.mk (hr.other hq.n2 hq.g2 3 (.int .i64 d))
  clear hq hr hk hrel HQ3 HR3
  go_upto_region 7 with (fail)
  clear hcx hfx
  generalize Y3.setCell ⟨gc, 3, none⟩ (.int .i64 d) = X4 at *
  go_wp2_with (fail)
  go_at_call 37
  (with_reducible refine (rrword gr m4 f4 w _ HR4.out).mono ?_)
  rintro e Y4 ⟨hk, p, m5, f5, rfl, hx, hr, hrel⟩
  have hq := HQ4.out.keep HR4.out hk
  have HE5 := Aside0.mk hrel
  have hcx : Y4.cell? ⟨gc, 4, none⟩ = some (.int .u64 0) := (blk_cell hq.bc 4).trans rfl
  have hfx := blk_frozen hq.bc 4
  have HQ5 := Aside0.mk (hq.put 4 (.int .u64 (p : Int)) rfl)
  have HR5 := Aside0.mk (hr.other hq.n2 hq.g2 4 (.int .u64 (p : Int)))
  clear hq hr hk hrel HQ4 HR4
  go_upto_region 8 with (fail)
  clear hcx hfx
  generalize Y4.setCell ⟨gc, 4, none⟩ (.int .u64 (p : Int)) = X5 at *
  go_wp2_with (fail)
  go_at_call 38
  (refine (rrmany 256 (by decide) gr m5 f5 w _ HR5.out).mono ?_)
  rintro e W6 ⟨hk, n, l6, e6, rfl, hn, hr, hrel⟩
  have HU := Aside0.mk (hd_chain HE1.out HE2.out HE3.out HE4.out HE5.out hrel)
  have HQa := Aside0.mk (HQ5.out.keep HR5.out hk)
  have HRa := Aside0.mk hr
  have HN := Aside0.mk hn
  clear hk hr hrel hn HE1 HE2 HE3 HE4 HE5 HQ5 HR5
  go_wp2_with (fail)
  go_loopg [8] (n + 1) (fun kq v8 wc => ∃ (i : Nat) (v : Value) (acc : List (List Int)) (l' : List Int) (e' : Int), i ≤ n ∧ n < i + kq ∧ v8 = .int .i64 (i : Int) ∧ Aside0 (acc.length = i) ∧ Aside0 (Uq w gq gc gr (fun _ => True) wc (.int .i64 a) (.int .i64 b) (.int .i64 c) (.int .i64 d) (.int .u64 (p : Int)) v acc) ∧ Aside0 (Rs w gr wc l' e') ∧ Aside0 (Up2 (finU a b c d (p : Int) acc (listsP (n - i) l') = unscriptP l0) (unscriptP l0) e'))
  case atStart => exact ⟨0, _, [], l6, e6, by omega, by omega, rfl, ⟨rfl⟩, HQa, HRa, HU⟩
  case round =>
    clear HQa HRa HU
    obtain ⟨i, v, acc, l', e', hi, hik, rfl, HL, HQ, HR, HU⟩ := hrel
    cases gk with
    | zero => omega
    | succ g =>
    obtain ⟨hc1, hf1⟩ := HR.out.e1
    by_cases hgo : i < n ∧ e' = 0
    · obtain ⟨hlt, rfl⟩ := hgo
      have c1b : decide ((i : Int) < (n : Int)) = true := decide_eq_true (by omega)
      have HF := Aside0.mk (show finU a b c d (p : Int) acc (listsP (n - i) l') = unscriptP l0 from by
        rcases HU.out with ⟨_, h⟩ | ⟨h, _⟩
        · exact h
        · exact absurd rfl h)
      clear HU
      go_upto_region 12 with (fail)
      clear hc1 hf1
      have hd0 : Below wr.heap.size wr wr.drew := below_drew (Below.refl _ _)
      have HQ1 := Aside0.mk ((HQ.out.below hd0).bound)
      have HR1 := Aside0.mk (HR.out.step hd0)
      clear HQ HR hd0
      obtain ⟨b9, hb9⟩ : ∃ b9, b9 = wr.drew.heap.size := ⟨_, rfl⟩
      have hwb : w.heap.size ≤ b9 := by rw [hb9]; exact HR1.out.below.size
      have hS0 : wr.drew.cell? ⟨gc, 5, none⟩ = some v := (blk_cell HQ1.out.bc 5).trans rfl
      refine start_ (n := 8) (S := fun wc => wc.cell? ⟨gc, 5, none⟩ = some v) (ds := [7]) #[false, false, false, false, false, false, false, false] (by kernel_rfl) rfl rfl hS0 (fun hS => ?_)
      clear hS0
      refine pure_ (i := 0) (N := some 45) (v := ?_) (a' := ?_) #[true, false, false, false, false, false, false, false] rfl rfl (by kernel_rfl) (fun _ _ _ h => h) (Or.inl ⟨by rfl, ?_⟩) ?_ ?_
      rotate_left
      · intro w'
        go_simp
        try (with_reducible rfl)
      rotate_left
      · simp only [Act.put, List.setIfInBounds_toArray, List.set_cons_zero, List.set_cons_succ]
        rfl
      refine take_ (i := 1) (N := some 46) (v := ?_) (a' := ?_) #[true, true, false, false, false, false, false, false] rfl rfl (by kernel_rfl) (fun _ _ _ h => h) (Or.inl ⟨by rfl, ?_⟩) hS ?_ ?_
      rotate_left
      · intro w' hw
        simp [go_sem, hw]
        try (with_reducible rfl)
      rotate_left
      · simp only [Act.put, List.setIfInBounds_toArray, List.set_cons_zero, List.set_cons_succ]
        rfl
      refine pure_ (i := 2) (N := some 47) (v := ?_) (a' := ?_) #[true, true, true, false, false, false, false, false] rfl rfl (by kernel_rfl) (fun _ _ _ h => h) (Or.inl ⟨by rfl, ?_⟩) ?_ ?_
      rotate_left
      · intro w'
        go_simp
        try (with_reducible rfl)
      rotate_left
      · simp only [Act.put, List.setIfInBounds_toArray, List.set_cons_zero, List.set_cons_succ]
        rfl
      refine one_ (i := 3) (N := some 48) #[true, true, true, true, false, false, false, false] rfl rfl (by kernel_rfl) (by simp) (fun K hK => ?_)
      refine goes_ Try.func39 (by kernel_rfl) rfl #[.pointer (some ⟨gr, 0, none⟩)] (by rfl) rfl rfl (by (try simp only [List.map_toArray, List.map_cons, List.map_nil]); first | done | rfl) ?_
      (with_reducible refine (rrlist gr l' 0 w _ HR1.out).mono ?_)
      rintro e W2 ⟨hk, z, l2, e2, vz, rfl, hvz, hr, hrel⟩
      refine ⟨_, rfl, ?_⟩
      obtain ⟨Az, cz, rfl⟩ := Kd.R_slice hvz
      rw [← hb9] at hvz
      have HQ2 := Aside0.mk (HQ1.out.keep HR1.out hk)
      rw [← hb9] at HQ2
      have HR2 := Aside0.mk hr
      have hb9' : b9 ≤ W2.heap.size := by rw [hb9]; exact hk.1
      have HU2 := Aside0.mk (show Up2 (finU a b c d (p : Int) (acc ++ [z]) (listsP (n - (i + 1)) l2) = unscriptP l0) (unscriptP l0) e2 from by
        rcases rel_ok hrel with ⟨h1, h2⟩ | ⟨h1, h2⟩
        · exact .inl ⟨h1, (lists_next hlt h2).symm.trans HF.out⟩
        · exact .inr ⟨h1, HF.out.symm.trans (lists_err hlt h2)⟩)
      have HV := Aside0.mk hvz
      clear hvz hr hk HQ1 HR1 hS hrel HF
      have hS2 : W2.cell? ⟨gc, 5, none⟩ = some v := (blk_cell HQ2.out.bc 5).trans rfl
      refine hK.out _ _ hS2 (fun _ => ?_)
      clear hK K
      refine norm_ (a' := ?_) ?_ ?_
      rotate_left
      · simp only [Act.put, List.setIfInBounds_toArray, List.set_cons_zero, List.set_cons_succ]
        rfl
      refine one_ (i := 4) (N := some 49) #[true, true, true, true, true, false, false, false] rfl rfl (by kernel_rfl) (by simp) (fun K hK => ?_)
      refine event_step (v := .slice (some ⟨W2.heap.size, 0, none⟩) 1 1) (w1 := W2.alloc (.cells #[.slice Az z.length cz] 50)) (by rfl) ?_ ?_
      · simp [go_sem]
      have hS3 : (W2.alloc (.cells #[.slice Az z.length cz] 50)).cell? ⟨gc, 5, none⟩ = some v := (blk_cell (((below_alloc (Below.refl _ W2) (.cells #[.slice Az z.length cz] 50)).block _ (blk_sz HQ2.out.bc)).trans HQ2.out.bc) 5).trans rfl
      show K (Act.put _ (some 49) _) _
      refine hK.out _ _ hS3 (fun _ => ?_)
      clear hK K hS3
      refine norm_ (a' := ?_) ?_ ?_
      rotate_left
      · simp only [Act.put, List.setIfInBounds_toArray, List.set_cons_zero, List.set_cons_succ]
        rfl
      refine one_ (i := 5) (N := some 50) #[true, true, true, true, true, true, false, false] rfl rfl (by kernel_rfl) (by simp) (fun K hK => ?_)
      have hown : ∀ k, v.ownBlock = some k → k < b9 := fun k hk => ((Kd.S_R HQ2.out.S).1 k hk).2
      have hlen := HL.out
      have hn9 := HN.out
      have hsz := HQ2.out.g1
      have hsz2 := blk_sz HQ2.out.bc
      have hll : (acc ++ [z]).length = i + 1 := by rw [List.length_append, hlen]; rfl
      have hM : kU.M W2 w.heap.size (fun k => b9 ≤ k) z [.slice Az z.length cz] := ⟨_, rfl, Kd.R_lower (Kd.R_mono (Kd.R_bound HV.out) (fun k hk => hk.2.1)) hwb⟩
      refine Kd.S_append_step kU (w0 := w) w.heap.size (by rfl) (.tmp 46) (.tmp 49) 23 50 (.slice none 0 0) 24 rfl Try.underlying23 (by kernel_rfl) rfl (by decide) (by decide) v acc z _ (fun _ => True) (fun k => b9 ≤ k) rfl rfl hM (fun k hk => ⟨trivial, fun he => by have h1 := hown k he.symm; have h2 := hk; omega⟩) (fun _ _ => trivial) (Kd.S_mono HQ2.out.S (fun k hk => ⟨trivial, by have := hk.2; omega⟩)) HR2.out.below (by omega) (by omega) ?_
      intro v1 w1 hS1 hb1 hg1 hat1
      obtain ⟨A1, c1, rfl⟩ := Kd.R_slice (Kd.S_R hS1)
      have HQ3 := Aside0.mk (HQ2.out.push hg1 hS1)
      have HR3 := Aside0.mk (HQ2.out.rd (v1 := .slice A1 (acc ++ [z]).length c1) HR2.out hg1)
      have hbl1 := (hg1.block _ (blk_sz HQ2.out.bc) (Kd.R_ne (Kd.S_R HQ2.out.S) HQ2.out.bc (by decide))).trans HQ2.out.bc
      have hcl1 : w1.cell? ⟨gc, 5, none⟩ = some v := (blk_cell hbl1 5).trans rfl
      have hfl1 := blk_frozen hbl1 5
      clear hM hS1 hb1 hg1 hat1 HQ2 HR2 HV hbl1 hown hsz2
      rw [hll] at HQ3 HR3 ⊢
      show K (Act.put _ (some 50) _) _
      refine hK.out _ _ hcl1 (fun hS => ?_)
      clear hK K
      refine norm_ (a' := ?_) ?_ ?_
      rotate_left
      · simp only [Act.put, List.setIfInBounds_toArray, List.set_cons_zero, List.set_cons_succ]
        rfl
      refine pure_ (i := 6) (N := some 51) (v := ?_) (a' := ?_) #[true, true, true, true, true, true, true, false] rfl rfl (by kernel_rfl) (fun _ _ _ h => h) (Or.inl ⟨by rfl, ?_⟩) ?_ ?_
      rotate_left
      · intro w'
        go_simp
        try (with_reducible rfl)
      rotate_left
      · simp only [Act.put, List.setIfInBounds_toArray, List.set_cons_zero, List.set_cons_succ]
        rfl
      refine last_ (i := 7) (N := none) #[true, true, true, true, true, true, true, true] rfl rfl (by kernel_rfl) (by simp) (fun K hK => ?_)
      refine skip_ (w1 := w1.setCell ⟨gc, 5, none⟩ (.slice A1 (i + 1) c1)) (by rfl) rfl ?_ ?_
      · simp [go_sem, hcl1, hfl1]
      refine hK.out _ _ ?_
      clear hK K hS
      refine done_ (by kernel_rfl) ?_
      clear hcl1 hfl1
      generalize w1.setCell ⟨gc, 5, none⟩ (.slice A1 (i + 1) c1) = Wd at *
      go_wp2_with (fail)
      go_roundg g
      case measure => omega
      case rel => exact ⟨i + 1, _, acc ++ [z], l2, e2, by omega, by omega, by first | rfl | rw [wrap_succ i (by omega)], ⟨hll⟩, ⟨HQ3.out.mono (fun _ _ => trivial)⟩, HR3, HU2⟩
    · have c1b : e' = 0 → decide ((i : Int) < (n : Int)) = false := fun h => decide_eq_false (by omega)
      have HM := Aside0.mk (show Up2 (finU a b c d (p : Int) acc (.ok ([], l')) = unscriptP l0) (unscriptP l0) e' from by
        rcases HU.out with ⟨h1, h2⟩ | h
        · rw [show n - i = 0 by omega] at h2
          exact .inl ⟨h1, h2⟩
        · exact .inr h)
      clear HU HL
      by_cases he : e' = 0
      · subst he
        have c2b : decide ((i : Int) < (n : Int)) = false := c1b rfl
        go_wp2_with (fail)
        go_at_call 38
        (refine (rrmany 4096 (by decide) gr l' 0 w _ HR.out).mono ?_)
        rintro e W7 ⟨hk, m, l7, e7, rfl, hm, hr, hrel⟩
        have HU := Aside0.mk (mid_chain HM.out hrel)
        have HQa := Aside0.mk (HQ.out.keep HR.out hk)
        have HRa := Aside0.mk hr
        have HNm := Aside0.mk hm
        clear hk hr hrel hm HQ HR HM hc1 hf1
        go_wp2_with (fail)
        go_loopg [9, 10] (m + 1) (fun kq v9 v10 wc => ∃ (j : Nat) (ac : List S54) (l4 : List Int) (e4 : Int), j ≤ m ∧ m < j + kq ∧ v10 = .int .i64 (j : Int) ∧ Aside0 (ac.length = j) ∧ Aside0 (Kd.S k54 54 wc w.heap.size (fun _ => True) v9 ac) ∧ Aside0 (Uq w gq gc gr (fun _ => True) wc (.int .i64 a) (.int .i64 b) (.int .i64 c) (.int .i64 d) (.int .u64 (p : Int)) v acc) ∧ Aside0 (Rs w gr wc l4 e4) ∧ Aside0 (Up2 (finA a b c d (p : Int) acc ac (actsP (m - j) l4) = unscriptP l0) (unscriptP l0) e4))
        case atStart => exact ⟨0, [], l7, e7, by omega, by omega, rfl, ⟨rfl⟩, ⟨Kd.S_nil _ _ _ _ _⟩, HQa, HRa, HU⟩
        case round =>
          clear HQa HRa HU
          obtain ⟨j, ac, l4, e4, hj, hjk, rfl, HL, HV, HQ, HR, HU⟩ := hrel
          cases gk with
          | zero => omega
          | succ g2 =>
          obtain ⟨hc1, hf1⟩ := HR.out.e1
          obtain ⟨A3, c3, rfl⟩ := Kd.R_slice (Kd.S_R HV.out)
          by_cases hgo2 : j < m ∧ e4 = 0
          · obtain ⟨hlt, rfl⟩ := hgo2
            have c1b : decide ((j : Int) < (m : Int)) = true := decide_eq_true (by omega)
            have HF := Aside0.mk (show finA a b c d (p : Int) acc ac (actsP (m - j) l4) = unscriptP l0 from by
              rcases HU.out with ⟨_, h⟩ | ⟨h, _⟩
              · exact h
              · exact absurd rfl h)
            clear HU
            go_upto_region 19 with (fail)
            have hbx := blk_new wr (.cells #[.int .i64 0, .int .i64 0, .int .i64 0, .slice none 0 0] 54)
            have hax : Below wr.heap.size wr _ := below_alloc (Below.refl _ _) (.cells #[.int .i64 0, .int .i64 0, .int .i64 0, .slice none 0 0] 54)
            have hV1 := Kd.S_mono (Kd.S_old HV.out hax) (ok' := fun k => k < wr.heap.size) (fun _ hk => hk.2)
            have hQ1 := (HQ.out.bound.below hax).mono (ok' := fun k => k < wr.heap.size) (fun _ hk => hk.2)
            have hR1 := HR.out.step hax
            have q1 := blk_sz HQ.out.bc
            have q2 := blk_sz HQ.out.bq
            have q3 := HR.out.lt
            have q4 := HR.out.below.size
            clear HV HR HQ hax hc1 hf1
            generalize wr.alloc (.cells #[.int .i64 0, .int .i64 0, .int .i64 0, .slice none 0 0] 54) = X0 at *
            obtain ⟨gx, hgx⟩ : ∃ gx, gx = wr.heap.size := ⟨_, rfl⟩
            rw [← hgx] at hbx q1 q2 q3 hV1 hQ1 ⊢
            have x1 : gx ≠ gc := by omega
            have x2 : gx ≠ gq := by omega
            have x3 : gx ≠ gr := by omega
            have XG := Aside0.mk (show w.heap.size ≤ gx by omega)
            clear q1 q2 q3 q4 hgx
            have HV0 := Aside0.mk hV1
            have HQ0 := Aside0.mk hQ1
            have HR0 := Aside0.mk hR1
            have HX0 := Aside0.mk hbx
            clear hV1 hQ1 hR1 hbx
            go_wp2_with (fail)
            go_at_call 36
            (with_reducible refine (rrnum gr l4 0 w _ HR0.out).mono ?_)
            rintro e Y0 ⟨hk, x, m1, f1, rfl, hr, hrel⟩
            obtain ⟨Ab, cb, hblk, _, _⟩ := HR0.out.blk
            have hV := Kd.S_mono (Kd.S_keep (Kd.S_types HV0.out hblk (by decide)) hk (fun _ hk => hk.2)) (ok' := fun k => k < gx) (fun _ hk => hk.1)
            have hQ := HQ0.out.keep HR0.out hk
            have hX := hk.blk HX0.out x3 (by simp)
            have HE1 := Aside0.mk hrel
            clear HV0 HR0 HX0 HQ0 hblk
            have hcx : Y0.cell? ⟨gx, 0, none⟩ = some (.int .i64 0) := (blk_cell hX 0).trans rfl
            have hfx := blk_frozen hX 0
            have hX2 := Aside0.mk (blk_set hX 0 (.int .i64 x))
            have hV2 := Aside0.mk (Kd.S_far hV (p := ⟨gx, 0, none⟩) (fun k hk => Nat.ne_of_lt hk) (.int .i64 x))
            have hQ2 := Aside0.mk (hQ.far x1 x2 (fun k hk => Nat.ne_of_lt hk) 0 (.int .i64 x))
            have hR2 := Aside0.mk (hr.other x3 XG.out 0 (.int .i64 x))
            clear hX hV hQ hr hk hrel
            go_upto_region 20 with (fail)
            clear hcx hfx
            generalize Y0.setCell ⟨gx, 0, none⟩ (.int .i64 x) = X1 at *
            have HX1 : Aside0 (X1.heap[gx]? = some (.cells #[.int .i64 x, .int .i64 0, .int .i64 0, .slice none 0 0] 54 (0, 0))) := ⟨hX2.out⟩
            have HV1 := hV2
            have HR1 := hR2
            have HQ1 := hQ2
            clear hX2 hV2 hR2 hQ2
            go_wp2_with (fail)
            go_at_call 36
            (with_reducible refine (rrnum gr m1 f1 w _ HR1.out).mono ?_)
            rintro e Y1 ⟨hk, y, m2, f2, rfl, hr, hrel⟩
            obtain ⟨Ab, cb, hblk, _, _⟩ := HR1.out.blk
            have hV := Kd.S_mono (Kd.S_keep (Kd.S_types HV1.out hblk (by decide)) hk (fun _ hk => hk.2)) (ok' := fun k => k < gx) (fun _ hk => hk.1)
            have hQ := HQ1.out.keep HR1.out hk
            have hX := hk.blk HX1.out x3 (by simp)
            have HE2 := Aside0.mk hrel
            clear HV1 HR1 HX1 HQ1 hblk
            have hcx : Y1.cell? ⟨gx, 1, none⟩ = some (.int .i64 0) := (blk_cell hX 1).trans rfl
            have hfx := blk_frozen hX 1
            have hX2 := Aside0.mk (blk_set hX 1 (.int .i64 y))
            have hV2 := Aside0.mk (Kd.S_far hV (p := ⟨gx, 1, none⟩) (fun k hk => Nat.ne_of_lt hk) (.int .i64 y))
            have hQ2 := Aside0.mk (hQ.far x1 x2 (fun k hk => Nat.ne_of_lt hk) 1 (.int .i64 y))
            have hR2 := Aside0.mk (hr.other x3 XG.out 1 (.int .i64 y))
            clear hX hV hQ hr hk hrel
            go_upto_region 21 with (fail)
            clear hcx hfx
            generalize Y1.setCell ⟨gx, 1, none⟩ (.int .i64 y) = X2 at *
            have HX2 : Aside0 (X2.heap[gx]? = some (.cells #[.int .i64 x, .int .i64 y, .int .i64 0, .slice none 0 0] 54 (0, 0))) := ⟨hX2.out⟩
            have HV2 := hV2
            have HR2 := hR2
            have HQ2 := hQ2
            clear hX2 hV2 hR2 hQ2
            go_wp2_with (fail)
            go_at_call 36
            (with_reducible refine (rrnum gr m2 f2 w _ HR2.out).mono ?_)
            rintro e Y2 ⟨hk, t, m3, f3, rfl, hr, hrel⟩
            obtain ⟨Ab, cb, hblk, _, _⟩ := HR2.out.blk
            have hV := Kd.S_mono (Kd.S_keep (Kd.S_types HV2.out hblk (by decide)) hk (fun _ hk => hk.2)) (ok' := fun k => k < gx) (fun _ hk => hk.1)
            have hQ := HQ2.out.keep HR2.out hk
            have hX := hk.blk HX2.out x3 (by simp)
            have HE3 := Aside0.mk hrel
            clear HV2 HR2 HX2 HQ2 hblk
            have hcx : Y2.cell? ⟨gx, 2, none⟩ = some (.int .i64 0) := (blk_cell hX 2).trans rfl
            have hfx := blk_frozen hX 2
            have hX2 := Aside0.mk (blk_set hX 2 (.int .i64 t))
            have hV2 := Aside0.mk (Kd.S_far hV (p := ⟨gx, 2, none⟩) (fun k hk => Nat.ne_of_lt hk) (.int .i64 t))
            have hQ2 := Aside0.mk (hQ.far x1 x2 (fun k hk => Nat.ne_of_lt hk) 2 (.int .i64 t))
            have hR2 := Aside0.mk (hr.other x3 XG.out 2 (.int .i64 t))
            clear hX hV hQ hr hk hrel
            go_upto_region 22 with (fail)
            clear hcx hfx
            generalize Y2.setCell ⟨gx, 2, none⟩ (.int .i64 t) = X3 at *
            have HX3 : Aside0 (X3.heap[gx]? = some (.cells #[.int .i64 x, .int .i64 y, .int .i64 t, .slice none 0 0] 54 (0, 0))) := ⟨hX2.out⟩
            have HV3 := hV2
            have HR3 := hR2
            have HQ3 := hQ2
            clear hX2 hV2 hR2 hQ2
            go_wp2_with (fail)
            go_at_call 39
            obtain ⟨b9, hb9⟩ : ∃ b9, b9 = X3.heap.size := ⟨_, rfl⟩
            have HXB := Aside0.mk (show gx < b9 from hb9 ▸ blk_sz HX3.out)
            (with_reducible refine (rrlist gr m3 f3 w _ HR3.out).mono ?_)
            rintro e Y3 ⟨hk, z, m4, f4, vz, rfl, hvz, hr, hrel⟩
            obtain ⟨Ab, cb, hblk, _, _⟩ := HR3.out.blk
            have hV := Kd.S_mono (Kd.S_keep (Kd.S_types HV3.out hblk (by decide)) hk (fun _ hk => hk.2)) (ok' := fun k => k < gx) (fun _ hk => hk.1)
            have hQ := HQ3.out.keep HR3.out hk
            have hX := hk.blk HX3.out x3 (by simp)
            have HE4 := Aside0.mk hrel
            clear HV3 HR3 HX3 HQ3 hblk
            obtain ⟨Az, cz, rfl⟩ := Kd.R_slice hvz
            rw [← hb9] at hvz
            have hcx : Y3.cell? ⟨gx, 3, none⟩ = some (.slice none 0 0) := (blk_cell hX 3).trans rfl
            have hfx := blk_frozen hX 3
            have hvz2 := Aside0.mk (Kd.R_far (Kd.R_bound hvz) (p := ⟨gx, 3, none⟩) (fun k hk => by have := hk.2.1; have := HXB.out; show k ≠ gx; omega) (.slice Az z.length cz))
            clear hvz
            have hX2 := Aside0.mk (blk_set hX 3 (.slice Az z.length cz))
            have hV2 := Aside0.mk (Kd.S_far hV (p := ⟨gx, 3, none⟩) (fun k hk => Nat.ne_of_lt hk) (.slice Az z.length cz))
            have hQ2 := Aside0.mk (hQ.far x1 x2 (fun k hk => Nat.ne_of_lt hk) 3 (.slice Az z.length cz))
            have hR2 := Aside0.mk (hr.other x3 XG.out 3 (.slice Az z.length cz))
            clear hX hV hQ hr hk hrel
            go_upto_region 23 with (fail)
            clear hcx hfx
            generalize Y3.setCell ⟨gx, 3, none⟩ (.slice Az z.length cz) = X4 at *
            have HX4 : Aside0 (X4.heap[gx]? = some (.cells #[.int .i64 x, .int .i64 y, .int .i64 t, .slice Az z.length cz] 54 (0, 0))) := ⟨hX2.out⟩
            have HV4 := hV2
            have HR4 := hR2
            have HQ4 := hQ2
            clear hX2 hV2 hR2 hQ2
            have hc0 : X4.cell? ⟨gx, 0, none⟩ = some (.int .i64 x) := (blk_cell HX4.out 0).trans rfl
            have hc1 : X4.cell? ⟨gx, 1, none⟩ = some (.int .i64 y) := (blk_cell HX4.out 1).trans rfl
            have hc2 : X4.cell? ⟨gx, 2, none⟩ = some (.int .i64 t) := (blk_cell HX4.out 2).trans rfl
            have hc3 : X4.cell? ⟨gx, 3, none⟩ = some (.slice Az z.length cz) := (blk_cell HX4.out 3).trans rfl
            have HUn := Aside0.mk (show Up2 (finA a b c d (p : Int) acc (ac ++ [(⟨x, ⟨y, t, z⟩⟩ : S54)]) (actsP (m - (j + 1)) m4) = unscriptP l0) (unscriptP l0) f4 from by
              rcases act_chain HE1.out HE2.out HE3.out HE4.out with ⟨h1, h2⟩ | ⟨h1, h2⟩
              · exact .inl ⟨h1, (acts_next hlt h2).symm.trans HF.out⟩
              · exact .inr ⟨h1, HF.out.symm.trans (acts_err hlt h2)⟩)
            have HLL := Aside0.mk (show (ac ++ [(⟨x, ⟨y, t, z⟩⟩ : S54)]).length = j + 1 by rw [List.length_append, HL.out]; rfl)
            have HWX := Aside0.mk (show w.heap.size ≤ X4.heap.size ∧ gx < X4.heap.size from ⟨HR4.out.below.size, blk_sz HX4.out⟩)
            have HM := Aside0.mk (k54_mkM X4 w.heap.size (fun k => b9 ≤ k) (⟨x, ⟨y, t, z⟩⟩ : S54) (Kd.R_lower (Kd.R_mono hvz2.out (fun k hk => hk.2.1)) (by have := XG.out; have := HXB.out; omega)))
            have HO := Aside0.mk (fun k hk => (Kd.S_R HV4.out).1 k hk)
            go_wp2_with (first | ((with_reducible refine gate_builtin (b := .append) (xs := #[.tmp 82, .tmp 84]) rfl ?_); at_builtin; refine Kd.S_append k54 (w0 := X4) w.heap.size rfl (.tmp 82) (.tmp 84) 26 54 (.agg #[.int .i64 0, .int .i64 0, .int .i64 0, .slice none 0 0]) 48 rfl Try.underlying26 (by kernel_rfl) rfl (by decide) (by decide) (.slice A3 ac.length c3) ac (⟨x, ⟨y, t, z⟩⟩ : S54) _ (fun _ => True) (fun k => b9 ≤ k) rfl rfl HM.out (fun k hk => ⟨trivial, fun he => by have h1 : k < gx := HO.out k he.symm; have h2 : b9 ≤ k := hk; have := HXB.out; omega⟩) (fun _ _ => trivial) (Kd.S_mono HV4.out (fun k hk => ⟨trivial, by have h3 : k < gx := hk; have := HXB.out; omega⟩)) (Below.refl _ _) HWX.out.1 (by have := HL.out; have := HNm.out; omega) ?_; intro v1 w1 hS1 hb1 hg1 hat1))
            go_roundg g2
            case measure => omega
            case rel =>
              have hbase := fun k hk => Kd.S_base HV4.out k hk
              have hn9 := HNm.out
              obtain ⟨A9, c9, hblk2, _, _⟩ := HR4.out.blk
              exact ⟨j + 1, ac ++ [(⟨x, ⟨y, t, z⟩⟩ : S54)], m4, f4, by omega, by omega, by first | rfl | rw [wrap_succ j (by omega)], HLL, ⟨hS1⟩, ⟨(HQ4.out.over HV4.out hg1).mono (fun _ _ => trivial)⟩, ⟨HR4.out.grown hg1 (fun k hk => ⟨hbase k hk, fun e => Kd.R_ne (Kd.S_R HV4.out) hblk2 (by decide) (e ▸ hk.symm)⟩)⟩, HUn⟩
          · have c1b : e4 = 0 → decide ((j : Int) < (m : Int)) = false := fun h => decide_eq_false (by omega)
            by_cases he4 : e4 = 0
            · subst he4
              have c2b : decide ((j : Int) < (m : Int)) = false := c1b rfl
              have HF := Aside0.mk (show finA a b c d (p : Int) acc ac (actsP 0 l4) = unscriptP l0 from by
                rcases HU.out with ⟨_, h⟩ | ⟨h, _⟩
                · rw [show m - j = 0 by omega] at h; exact h
                · exact absurd rfl h)
              clear HU
              go_wp2_with (fail)
              go_at_call 40
              (with_reducible refine (rrover gr l4 0 w _ HR.out).mono ?_)
              rintro e W9 ⟨hk, e9, rfl, hr, hrel⟩
              obtain ⟨Ab, cb, hblk, _, _⟩ := HR.out.blk
              have HV9 := Aside0.mk (Kd.S_mono (Kd.S_keep (Kd.S_types HV.out hblk (by decide)) hk (fun _ hk => hk.2)) (ok' := fun _ => True) (fun _ _ => trivial))
              have HQ9 := Aside0.mk (HQ.out.keep HR.out hk)
              rcases hrel with ⟨_, ⟨hl, h9⟩ | ⟨hl, h9⟩⟩ | ⟨h0, _⟩
              · subst h9
                obtain ⟨q1, q2⟩ := outp_ok H.out (HF.out.symm.trans (show finA a b c d (p : Int) acc ac (actsP 0 l4) = .ok ⟨a, b, c, d, (p : Int), acc, ac⟩ by rw [hl]; simp [actsP, finA]))
                have HQ1 := Aside0.mk q1
                have HQ2 := Aside0.mk q2
                obtain ⟨A5, c5, e5⟩ := Kd.R_slice (Kd.S_R HQ9.out.S)
                subst e5
                have hfin := HQ9.out.fin HV9.out hr.below
                have HFI := Aside0.mk hfin
                have hca0 : W9.cell? ⟨gc, 0, none⟩ = some (.int .i64 a) := (blk_cell HQ9.out.bc 0).trans rfl
                have hcb0 : W9.cell? ⟨gq, 0, none⟩ = some (.int .i64 0) := (blk_cell HQ9.out.bq 0).trans rfl
                have hcf0 := blk_frozen HQ9.out.bq 0
                have hca1 : W9.cell? ⟨gc, 1, none⟩ = some (.int .i64 b) := (blk_cell HQ9.out.bc 1).trans rfl
                have hcb1 : W9.cell? ⟨gq, 1, none⟩ = some (.int .i64 0) := (blk_cell HQ9.out.bq 1).trans rfl
                have hcf1 := blk_frozen HQ9.out.bq 1
                have hca2 : W9.cell? ⟨gc, 2, none⟩ = some (.int .i64 c) := (blk_cell HQ9.out.bc 2).trans rfl
                have hcb2 : W9.cell? ⟨gq, 2, none⟩ = some (.int .i64 0) := (blk_cell HQ9.out.bq 2).trans rfl
                have hcf2 := blk_frozen HQ9.out.bq 2
                have hca3 : W9.cell? ⟨gc, 3, none⟩ = some (.int .i64 d) := (blk_cell HQ9.out.bc 3).trans rfl
                have hcb3 : W9.cell? ⟨gq, 3, none⟩ = some (.int .i64 0) := (blk_cell HQ9.out.bq 3).trans rfl
                have hcf3 := blk_frozen HQ9.out.bq 3
                have hca4 : W9.cell? ⟨gc, 4, none⟩ = some (.int .u64 (p : Int)) := (blk_cell HQ9.out.bc 4).trans rfl
                have hcb4 : W9.cell? ⟨gq, 4, none⟩ = some (.int .u64 0) := (blk_cell HQ9.out.bq 4).trans rfl
                have hcf4 := blk_frozen HQ9.out.bq 4
                have hca5 : W9.cell? ⟨gc, 5, none⟩ = some (.slice A5 acc.length c5) := (blk_cell HQ9.out.bc 5).trans rfl
                have hcb5 : W9.cell? ⟨gq, 5, none⟩ = some (.slice none 0 0) := (blk_cell HQ9.out.bq 5).trans rfl
                have hcf5 := blk_frozen HQ9.out.bq 5
                clear q1 q2 hr hk hl HF hblk hfin hc1 hf1
                go_wp2_with (fail)
                refine bodyPost_ret (uq_res rfl rfl rfl HFI.out.1) rfl ?_
                obtain ⟨_, hl5, hC5⟩ := Kd.S_reads' HFI.out.2.1
                obtain ⟨_, hl6, hC6⟩ := Kd.S_reads' HFI.out.2.2.1
                have q1 := HQ1.out
                have q2 := HQ2.out
                subst q1 q2
                exact ⟨A5, A3, c5, c3, rfl, hC5, hl5, hC6, hl6, HFI.out.2.2.2⟩
              · have HT := Aside0.mk (show unscriptP l0 = .error e9 from HF.out.symm.trans (by rw [h9]; cases l4 with | nil => exact absurd rfl hl | cons c r => rfl))
                have h9' : e9 ≠ 0 := by rw [h9]; decide
                clear h9 hl HF hblk hk hc1 hf1
                obtain ⟨hc9, hf9⟩ := hr.e1
                have HR9 := Aside0.mk hr
                clear hr
                go_upto_region 25 with (fail)
                refine start_ (n := 8) (S := fun wc => wc.cell? ⟨gr, 1, none⟩ = some (.int .i64 e9)) (ds := []) #[false, false, false, false, false, false, false, false] (by kernel_rfl) rfl rfl ((HR9.out.step (below_drew (Below.refl _ _))).e1.1) (fun hS => ?_)
                refine pure_ (i := 0) (N := some 89) (v := ?_) (a' := ?_) #[true, false, false, false, false, false, false, false] rfl rfl (by kernel_rfl) (fun _ _ _ h => h) (Or.inl ⟨by rfl, ?_⟩) ?_ ?_
                rotate_left
                · intro w'
                  go_simp
                  try (with_reducible rfl)
                rotate_left
                · simp only [Act.put, List.setIfInBounds_toArray, List.set_cons_zero, List.set_cons_succ]
                  rfl
                refine pure_ (i := 1) (N := some 90) (v := ?_) (a' := ?_) #[true, true, false, false, false, false, false, false] rfl rfl (by kernel_rfl) (fun _ _ _ h => h) (Or.inl ⟨by rfl, ?_⟩) ?_ ?_
                rotate_left
                · intro w'
                  go_simp
                  try (with_reducible rfl)
                rotate_left
                · simp only [Act.put, List.setIfInBounds_toArray, List.set_cons_zero, List.set_cons_succ]
                  rfl
                refine pure_ (i := 2) (N := some 91) (v := ?_) (a' := ?_) #[true, true, true, false, false, false, false, false] rfl rfl (by kernel_rfl) (fun _ _ _ h => h) (Or.inl ⟨by rfl, ?_⟩) ?_ ?_
                rotate_left
                · intro w'
                  go_simp
                  try (with_reducible rfl)
                rotate_left
                · simp only [Act.put, List.setIfInBounds_toArray, List.set_cons_zero, List.set_cons_succ]
                  rfl
                refine pure_ (i := 3) (N := some 92) (v := ?_) (a' := ?_) #[true, true, true, true, false, false, false, false] rfl rfl (by kernel_rfl) (fun _ _ _ h => h) (Or.inl ⟨by rfl, ?_⟩) ?_ ?_
                rotate_left
                · intro w'
                  go_simp
                  try (with_reducible rfl)
                rotate_left
                · simp only [Act.put, List.setIfInBounds_toArray, List.set_cons_zero, List.set_cons_succ]
                  rfl
                refine take_ (i := 4) (N := some 93) (v := ?_) (a' := ?_) #[true, true, true, true, true, false, false, false] rfl rfl (by kernel_rfl) (fun _ _ _ h => h) (Or.inl ⟨by rfl, ?_⟩) hS ?_ ?_
                rotate_left
                · intro w' hw
                  simp [go_sem, hw]
                  try (with_reducible rfl)
                rotate_left
                · simp only [Act.put, List.setIfInBounds_toArray, List.set_cons_zero, List.set_cons_succ]
                  rfl
                have HQd := Aside0.mk (HQ9.out.below (below_drew (Below.refl W9.heap.size W9)))
                have HBd := Aside0.mk (HR9.out.step (below_drew (Below.refl W9.heap.size W9))).below
                obtain ⟨Ad, cd, hbd9, _, _⟩ := (HR9.out.step (below_drew (Below.refl W9.heap.size W9))).blk
                have hS5 : (W9.drew.setCells gq 0 [.int .i64 0, .int .i64 0, .int .i64 0, .int .i64 0, .int .u64 0, .slice none 0 0]).cell? ⟨gr, 1, none⟩ = some (.int .i64 e9) := (blk_cell ((Ivs.stored_other (g := gq) (j := gr) (fun e => HQd.out.n3 e.symm) [.int .i64 0, .int .i64 0, .int .i64 0, .int .i64 0, .int .u64 0, .slice none 0 0] 0 W9.drew).trans hbd9) 1).trans rfl
                clear hbd9
                refine one_ (i := 5) (N := none) #[true, true, true, true, true, true, false, false] rfl rfl (by kernel_rfl) (by simp) (fun K hK => ?_)
                refine skip_ (w1 := W9.drew.setCells gq 0 [.int .i64 0, .int .i64 0, .int .i64 0, .int .i64 0, .int .u64 0, .slice none 0 0]) (by rfl) rfl (Ivs.exec_store 25 (.tmp 2) (.tmp 89) rfl rfl rfl HQd.out.bq rfl (by kernel_rfl) (by intro q hq; simp only [List.mem_cons, List.not_mem_nil, or_false] at hq; rcases hq with rfl | rfl | rfl | rfl | rfl | rfl <;> rfl)) ?_
                refine hK.out _ _ hS5 (fun _ => ?_)
                clear hK K
                refine pure_ (i := 6) (N := some 3) (v := ?_) (a' := ?_) #[true, true, true, true, true, true, true, false] rfl rfl (by kernel_rfl) (fun _ _ _ h => h) (Or.inl ⟨by rfl, ?_⟩) ?_ ?_
                rotate_left
                · intro w'
                  go_simp
                  try (with_reducible rfl)
                rotate_left
                · simp only [Act.put, List.setIfInBounds_toArray, List.set_cons_zero, List.set_cons_succ]
                  rfl
                refine pure_ (i := 7) (N := some 4) (v := ?_) (a' := ?_) #[true, true, true, true, true, true, true, true] rfl rfl (by kernel_rfl) (fun _ _ _ h => h) (Or.inl ⟨by rfl, ?_⟩) ?_ ?_
                rotate_left
                · intro w'
                  go_simp
                  try (with_reducible rfl)
                rotate_left
                · simp only [Act.put, List.setIfInBounds_toArray, List.set_cons_zero, List.set_cons_succ]
                  rfl
                refine done_ (by kernel_rfl) ?_
                have hst := Ivs.stored (new := #[.int .i64 0, .int .i64 0, .int .i64 0, .int .i64 0, .int .u64 0, .slice none 0 0]) HQd.out.bq rfl
                have hbd := Ivs.below_stored (g := gq) [.int .i64 0, .int .i64 0, .int .i64 0, .int .i64 0, .int .u64 0, .slice none 0 0] 0 _ HBd.out HQd.out.g1
                have HST := Aside0.mk hst
                have HBS := Aside0.mk hbd
                clear hst hbd hS hc9 hf9
                go_wp2_with (fail)
                refine bodyPost_ret (uq_res rfl rfl rfl HST.out) rfl ?_
                obtain ⟨rfl, rfl⟩ := outp_err H.out HT.out
                exact ⟨none, none, 0, 0, rfl, ⟨rfl, Nat.zero_le _, fun h => absurd h (Nat.lt_irrefl 0)⟩, Nat.le_refl _, ⟨rfl, Nat.zero_le _, fun h => absurd h (Nat.lt_irrefl 0)⟩, Nat.le_refl _, HBS.out⟩
              · exact absurd rfl h0
            · have HT0 := Aside0.mk (show unscriptP l0 = .error e4 from by
                rcases HU.out with ⟨h, _⟩ | ⟨_, h⟩
                · exact absurd h he4
                · exact h)
              clear HU
              by_cases hlt2 : j < m
              · have c2b : decide ((j : Int) < (m : Int)) = true := decide_eq_true (by omega)
                go_wp2_with (fail)
                go_at_call 40
                (with_reducible refine (rrover gr l4 e4 w _ HR.out).mono ?_)
                rintro e W9 ⟨hk, e9, rfl, hr, ⟨h0, _⟩ | ⟨_, h9⟩⟩
                · exact absurd h0 he4
                have HT := Aside0.mk (show unscriptP l0 = .error e9 by rw [h9]; exact HT0.out)
                have h9' : e9 ≠ 0 := by rw [h9]; exact he4
                have HQ9 := Aside0.mk (HQ.out.keep HR.out hk)
                clear h9 hk hc1 hf1
                obtain ⟨hc9, hf9⟩ := hr.e1
                have HR9 := Aside0.mk hr
                clear hr
                go_upto_region 25 with (fail)
                refine start_ (n := 8) (S := fun wc => wc.cell? ⟨gr, 1, none⟩ = some (.int .i64 e9)) (ds := []) #[false, false, false, false, false, false, false, false] (by kernel_rfl) rfl rfl ((HR9.out.step (below_drew (Below.refl _ _))).e1.1) (fun hS => ?_)
                refine pure_ (i := 0) (N := some 89) (v := ?_) (a' := ?_) #[true, false, false, false, false, false, false, false] rfl rfl (by kernel_rfl) (fun _ _ _ h => h) (Or.inl ⟨by rfl, ?_⟩) ?_ ?_
                rotate_left
                · intro w'
                  go_simp
                  try (with_reducible rfl)
                rotate_left
                · simp only [Act.put, List.setIfInBounds_toArray, List.set_cons_zero, List.set_cons_succ]
                  rfl
                refine pure_ (i := 1) (N := some 90) (v := ?_) (a' := ?_) #[true, true, false, false, false, false, false, false] rfl rfl (by kernel_rfl) (fun _ _ _ h => h) (Or.inl ⟨by rfl, ?_⟩) ?_ ?_
                rotate_left
                · intro w'
                  go_simp
                  try (with_reducible rfl)
                rotate_left
                · simp only [Act.put, List.setIfInBounds_toArray, List.set_cons_zero, List.set_cons_succ]
                  rfl
                refine pure_ (i := 2) (N := some 91) (v := ?_) (a' := ?_) #[true, true, true, false, false, false, false, false] rfl rfl (by kernel_rfl) (fun _ _ _ h => h) (Or.inl ⟨by rfl, ?_⟩) ?_ ?_
                rotate_left
                · intro w'
                  go_simp
                  try (with_reducible rfl)
                rotate_left
                · simp only [Act.put, List.setIfInBounds_toArray, List.set_cons_zero, List.set_cons_succ]
                  rfl
                refine pure_ (i := 3) (N := some 92) (v := ?_) (a' := ?_) #[true, true, true, true, false, false, false, false] rfl rfl (by kernel_rfl) (fun _ _ _ h => h) (Or.inl ⟨by rfl, ?_⟩) ?_ ?_
                rotate_left
                · intro w'
                  go_simp
                  try (with_reducible rfl)
                rotate_left
                · simp only [Act.put, List.setIfInBounds_toArray, List.set_cons_zero, List.set_cons_succ]
                  rfl
                refine take_ (i := 4) (N := some 93) (v := ?_) (a' := ?_) #[true, true, true, true, true, false, false, false] rfl rfl (by kernel_rfl) (fun _ _ _ h => h) (Or.inl ⟨by rfl, ?_⟩) hS ?_ ?_
                rotate_left
                · intro w' hw
                  simp [go_sem, hw]
                  try (with_reducible rfl)
                rotate_left
                · simp only [Act.put, List.setIfInBounds_toArray, List.set_cons_zero, List.set_cons_succ]
                  rfl
                have HQd := Aside0.mk (HQ9.out.below (below_drew (Below.refl W9.heap.size W9)))
                have HBd := Aside0.mk (HR9.out.step (below_drew (Below.refl W9.heap.size W9))).below
                obtain ⟨Ad, cd, hbd9, _, _⟩ := (HR9.out.step (below_drew (Below.refl W9.heap.size W9))).blk
                have hS5 : (W9.drew.setCells gq 0 [.int .i64 0, .int .i64 0, .int .i64 0, .int .i64 0, .int .u64 0, .slice none 0 0]).cell? ⟨gr, 1, none⟩ = some (.int .i64 e9) := (blk_cell ((Ivs.stored_other (g := gq) (j := gr) (fun e => HQd.out.n3 e.symm) [.int .i64 0, .int .i64 0, .int .i64 0, .int .i64 0, .int .u64 0, .slice none 0 0] 0 W9.drew).trans hbd9) 1).trans rfl
                clear hbd9
                refine one_ (i := 5) (N := none) #[true, true, true, true, true, true, false, false] rfl rfl (by kernel_rfl) (by simp) (fun K hK => ?_)
                refine skip_ (w1 := W9.drew.setCells gq 0 [.int .i64 0, .int .i64 0, .int .i64 0, .int .i64 0, .int .u64 0, .slice none 0 0]) (by rfl) rfl (Ivs.exec_store 25 (.tmp 2) (.tmp 89) rfl rfl rfl HQd.out.bq rfl (by kernel_rfl) (by intro q hq; simp only [List.mem_cons, List.not_mem_nil, or_false] at hq; rcases hq with rfl | rfl | rfl | rfl | rfl | rfl <;> rfl)) ?_
                refine hK.out _ _ hS5 (fun _ => ?_)
                clear hK K
                refine pure_ (i := 6) (N := some 3) (v := ?_) (a' := ?_) #[true, true, true, true, true, true, true, false] rfl rfl (by kernel_rfl) (fun _ _ _ h => h) (Or.inl ⟨by rfl, ?_⟩) ?_ ?_
                rotate_left
                · intro w'
                  go_simp
                  try (with_reducible rfl)
                rotate_left
                · simp only [Act.put, List.setIfInBounds_toArray, List.set_cons_zero, List.set_cons_succ]
                  rfl
                refine pure_ (i := 7) (N := some 4) (v := ?_) (a' := ?_) #[true, true, true, true, true, true, true, true] rfl rfl (by kernel_rfl) (fun _ _ _ h => h) (Or.inl ⟨by rfl, ?_⟩) ?_ ?_
                rotate_left
                · intro w'
                  go_simp
                  try (with_reducible rfl)
                rotate_left
                · simp only [Act.put, List.setIfInBounds_toArray, List.set_cons_zero, List.set_cons_succ]
                  rfl
                refine done_ (by kernel_rfl) ?_
                have hst := Ivs.stored (new := #[.int .i64 0, .int .i64 0, .int .i64 0, .int .i64 0, .int .u64 0, .slice none 0 0]) HQd.out.bq rfl
                have hbd := Ivs.below_stored (g := gq) [.int .i64 0, .int .i64 0, .int .i64 0, .int .i64 0, .int .u64 0, .slice none 0 0] 0 _ HBd.out HQd.out.g1
                have HST := Aside0.mk hst
                have HBS := Aside0.mk hbd
                clear hst hbd hS hc9 hf9
                go_wp2_with (fail)
                refine bodyPost_ret (uq_res rfl rfl rfl HST.out) rfl ?_
                obtain ⟨rfl, rfl⟩ := outp_err H.out HT.out
                exact ⟨none, none, 0, 0, rfl, ⟨rfl, Nat.zero_le _, fun h => absurd h (Nat.lt_irrefl 0)⟩, Nat.le_refl _, ⟨rfl, Nat.zero_le _, fun h => absurd h (Nat.lt_irrefl 0)⟩, Nat.le_refl _, HBS.out⟩
              
              · have c2b : decide ((j : Int) < (m : Int)) = false := decide_eq_false (by omega)
                go_wp2_with (fail)
                go_at_call 40
                (with_reducible refine (rrover gr l4 e4 w _ HR.out).mono ?_)
                rintro e W9 ⟨hk, e9, rfl, hr, ⟨h0, _⟩ | ⟨_, h9⟩⟩
                · exact absurd h0 he4
                have HT := Aside0.mk (show unscriptP l0 = .error e9 by rw [h9]; exact HT0.out)
                have h9' : e9 ≠ 0 := by rw [h9]; exact he4
                have HQ9 := Aside0.mk (HQ.out.keep HR.out hk)
                clear h9 hk hc1 hf1
                obtain ⟨hc9, hf9⟩ := hr.e1
                have HR9 := Aside0.mk hr
                clear hr
                go_upto_region 25 with (fail)
                refine start_ (n := 8) (S := fun wc => wc.cell? ⟨gr, 1, none⟩ = some (.int .i64 e9)) (ds := []) #[false, false, false, false, false, false, false, false] (by kernel_rfl) rfl rfl ((HR9.out.step (below_drew (Below.refl _ _))).e1.1) (fun hS => ?_)
                refine pure_ (i := 0) (N := some 89) (v := ?_) (a' := ?_) #[true, false, false, false, false, false, false, false] rfl rfl (by kernel_rfl) (fun _ _ _ h => h) (Or.inl ⟨by rfl, ?_⟩) ?_ ?_
                rotate_left
                · intro w'
                  go_simp
                  try (with_reducible rfl)
                rotate_left
                · simp only [Act.put, List.setIfInBounds_toArray, List.set_cons_zero, List.set_cons_succ]
                  rfl
                refine pure_ (i := 1) (N := some 90) (v := ?_) (a' := ?_) #[true, true, false, false, false, false, false, false] rfl rfl (by kernel_rfl) (fun _ _ _ h => h) (Or.inl ⟨by rfl, ?_⟩) ?_ ?_
                rotate_left
                · intro w'
                  go_simp
                  try (with_reducible rfl)
                rotate_left
                · simp only [Act.put, List.setIfInBounds_toArray, List.set_cons_zero, List.set_cons_succ]
                  rfl
                refine pure_ (i := 2) (N := some 91) (v := ?_) (a' := ?_) #[true, true, true, false, false, false, false, false] rfl rfl (by kernel_rfl) (fun _ _ _ h => h) (Or.inl ⟨by rfl, ?_⟩) ?_ ?_
                rotate_left
                · intro w'
                  go_simp
                  try (with_reducible rfl)
                rotate_left
                · simp only [Act.put, List.setIfInBounds_toArray, List.set_cons_zero, List.set_cons_succ]
                  rfl
                refine pure_ (i := 3) (N := some 92) (v := ?_) (a' := ?_) #[true, true, true, true, false, false, false, false] rfl rfl (by kernel_rfl) (fun _ _ _ h => h) (Or.inl ⟨by rfl, ?_⟩) ?_ ?_
                rotate_left
                · intro w'
                  go_simp
                  try (with_reducible rfl)
                rotate_left
                · simp only [Act.put, List.setIfInBounds_toArray, List.set_cons_zero, List.set_cons_succ]
                  rfl
                refine take_ (i := 4) (N := some 93) (v := ?_) (a' := ?_) #[true, true, true, true, true, false, false, false] rfl rfl (by kernel_rfl) (fun _ _ _ h => h) (Or.inl ⟨by rfl, ?_⟩) hS ?_ ?_
                rotate_left
                · intro w' hw
                  simp [go_sem, hw]
                  try (with_reducible rfl)
                rotate_left
                · simp only [Act.put, List.setIfInBounds_toArray, List.set_cons_zero, List.set_cons_succ]
                  rfl
                have HQd := Aside0.mk (HQ9.out.below (below_drew (Below.refl W9.heap.size W9)))
                have HBd := Aside0.mk (HR9.out.step (below_drew (Below.refl W9.heap.size W9))).below
                obtain ⟨Ad, cd, hbd9, _, _⟩ := (HR9.out.step (below_drew (Below.refl W9.heap.size W9))).blk
                have hS5 : (W9.drew.setCells gq 0 [.int .i64 0, .int .i64 0, .int .i64 0, .int .i64 0, .int .u64 0, .slice none 0 0]).cell? ⟨gr, 1, none⟩ = some (.int .i64 e9) := (blk_cell ((Ivs.stored_other (g := gq) (j := gr) (fun e => HQd.out.n3 e.symm) [.int .i64 0, .int .i64 0, .int .i64 0, .int .i64 0, .int .u64 0, .slice none 0 0] 0 W9.drew).trans hbd9) 1).trans rfl
                clear hbd9
                refine one_ (i := 5) (N := none) #[true, true, true, true, true, true, false, false] rfl rfl (by kernel_rfl) (by simp) (fun K hK => ?_)
                refine skip_ (w1 := W9.drew.setCells gq 0 [.int .i64 0, .int .i64 0, .int .i64 0, .int .i64 0, .int .u64 0, .slice none 0 0]) (by rfl) rfl (Ivs.exec_store 25 (.tmp 2) (.tmp 89) rfl rfl rfl HQd.out.bq rfl (by kernel_rfl) (by intro q hq; simp only [List.mem_cons, List.not_mem_nil, or_false] at hq; rcases hq with rfl | rfl | rfl | rfl | rfl | rfl <;> rfl)) ?_
                refine hK.out _ _ hS5 (fun _ => ?_)
                clear hK K
                refine pure_ (i := 6) (N := some 3) (v := ?_) (a' := ?_) #[true, true, true, true, true, true, true, false] rfl rfl (by kernel_rfl) (fun _ _ _ h => h) (Or.inl ⟨by rfl, ?_⟩) ?_ ?_
                rotate_left
                · intro w'
                  go_simp
                  try (with_reducible rfl)
                rotate_left
                · simp only [Act.put, List.setIfInBounds_toArray, List.set_cons_zero, List.set_cons_succ]
                  rfl
                refine pure_ (i := 7) (N := some 4) (v := ?_) (a' := ?_) #[true, true, true, true, true, true, true, true] rfl rfl (by kernel_rfl) (fun _ _ _ h => h) (Or.inl ⟨by rfl, ?_⟩) ?_ ?_
                rotate_left
                · intro w'
                  go_simp
                  try (with_reducible rfl)
                rotate_left
                · simp only [Act.put, List.setIfInBounds_toArray, List.set_cons_zero, List.set_cons_succ]
                  rfl
                refine done_ (by kernel_rfl) ?_
                have hst := Ivs.stored (new := #[.int .i64 0, .int .i64 0, .int .i64 0, .int .i64 0, .int .u64 0, .slice none 0 0]) HQd.out.bq rfl
                have hbd := Ivs.below_stored (g := gq) [.int .i64 0, .int .i64 0, .int .i64 0, .int .i64 0, .int .u64 0, .slice none 0 0] 0 _ HBd.out HQd.out.g1
                have HST := Aside0.mk hst
                have HBS := Aside0.mk hbd
                clear hst hbd hS hc9 hf9
                go_wp2_with (fail)
                refine bodyPost_ret (uq_res rfl rfl rfl HST.out) rfl ?_
                obtain ⟨rfl, rfl⟩ := outp_err H.out HT.out
                exact ⟨none, none, 0, 0, rfl, ⟨rfl, Nat.zero_le _, fun h => absurd h (Nat.lt_irrefl 0)⟩, Nat.le_refl _, ⟨rfl, Nat.zero_le _, fun h => absurd h (Nat.lt_irrefl 0)⟩, Nat.le_refl _, HBS.out⟩
      · by_cases hlt : i < n
        · have c2b : decide ((i : Int) < (n : Int)) = true := decide_eq_true (by omega)
          go_wp2_with (fail)
          go_at_call 38
          (refine (rrmany 4096 (by decide) gr l' e' w _ HR.out).mono ?_)
          rintro e W7 ⟨hk, m, l7, e7, rfl, hm, hr, hrel⟩
          have HU := Aside0.mk (mid_chain HM.out hrel)
          have HQa := Aside0.mk (HQ.out.keep HR.out hk)
          have HRa := Aside0.mk hr
          have HNm := Aside0.mk hm
          clear hk hr hrel hm HQ HR HM hc1 hf1
          go_wp2_with (fail)
          go_loopg [9, 10] (m + 1) (fun kq v9 v10 wc => ∃ (j : Nat) (ac : List S54) (l4 : List Int) (e4 : Int), j ≤ m ∧ m < j + kq ∧ v10 = .int .i64 (j : Int) ∧ Aside0 (ac.length = j) ∧ Aside0 (Kd.S k54 54 wc w.heap.size (fun _ => True) v9 ac) ∧ Aside0 (Uq w gq gc gr (fun _ => True) wc (.int .i64 a) (.int .i64 b) (.int .i64 c) (.int .i64 d) (.int .u64 (p : Int)) v acc) ∧ Aside0 (Rs w gr wc l4 e4) ∧ Aside0 (Up2 (finA a b c d (p : Int) acc ac (actsP (m - j) l4) = unscriptP l0) (unscriptP l0) e4))
          case atStart => exact ⟨0, [], l7, e7, by omega, by omega, rfl, ⟨rfl⟩, ⟨Kd.S_nil _ _ _ _ _⟩, HQa, HRa, HU⟩
          case round =>
            clear HQa HRa HU
            obtain ⟨j, ac, l4, e4, hj, hjk, rfl, HL, HV, HQ, HR, HU⟩ := hrel
            cases gk with
            | zero => omega
            | succ g2 =>
            obtain ⟨hc1, hf1⟩ := HR.out.e1
            obtain ⟨A3, c3, rfl⟩ := Kd.R_slice (Kd.S_R HV.out)
            by_cases hgo2 : j < m ∧ e4 = 0
            · obtain ⟨hlt, rfl⟩ := hgo2
              have c1b : decide ((j : Int) < (m : Int)) = true := decide_eq_true (by omega)
              have HF := Aside0.mk (show finA a b c d (p : Int) acc ac (actsP (m - j) l4) = unscriptP l0 from by
                rcases HU.out with ⟨_, h⟩ | ⟨h, _⟩
                · exact h
                · exact absurd rfl h)
              clear HU
              go_upto_region 19 with (fail)
              have hbx := blk_new wr (.cells #[.int .i64 0, .int .i64 0, .int .i64 0, .slice none 0 0] 54)
              have hax : Below wr.heap.size wr _ := below_alloc (Below.refl _ _) (.cells #[.int .i64 0, .int .i64 0, .int .i64 0, .slice none 0 0] 54)
              have hV1 := Kd.S_mono (Kd.S_old HV.out hax) (ok' := fun k => k < wr.heap.size) (fun _ hk => hk.2)
              have hQ1 := (HQ.out.bound.below hax).mono (ok' := fun k => k < wr.heap.size) (fun _ hk => hk.2)
              have hR1 := HR.out.step hax
              have q1 := blk_sz HQ.out.bc
              have q2 := blk_sz HQ.out.bq
              have q3 := HR.out.lt
              have q4 := HR.out.below.size
              clear HV HR HQ hax hc1 hf1
              generalize wr.alloc (.cells #[.int .i64 0, .int .i64 0, .int .i64 0, .slice none 0 0] 54) = X0 at *
              obtain ⟨gx, hgx⟩ : ∃ gx, gx = wr.heap.size := ⟨_, rfl⟩
              rw [← hgx] at hbx q1 q2 q3 hV1 hQ1 ⊢
              have x1 : gx ≠ gc := by omega
              have x2 : gx ≠ gq := by omega
              have x3 : gx ≠ gr := by omega
              have XG := Aside0.mk (show w.heap.size ≤ gx by omega)
              clear q1 q2 q3 q4 hgx
              have HV0 := Aside0.mk hV1
              have HQ0 := Aside0.mk hQ1
              have HR0 := Aside0.mk hR1
              have HX0 := Aside0.mk hbx
              clear hV1 hQ1 hR1 hbx
              go_wp2_with (fail)
              go_at_call 36
              (with_reducible refine (rrnum gr l4 0 w _ HR0.out).mono ?_)
              rintro e Y0 ⟨hk, x, m1, f1, rfl, hr, hrel⟩
              obtain ⟨Ab, cb, hblk, _, _⟩ := HR0.out.blk
              have hV := Kd.S_mono (Kd.S_keep (Kd.S_types HV0.out hblk (by decide)) hk (fun _ hk => hk.2)) (ok' := fun k => k < gx) (fun _ hk => hk.1)
              have hQ := HQ0.out.keep HR0.out hk
              have hX := hk.blk HX0.out x3 (by simp)
              have HE1 := Aside0.mk hrel
              clear HV0 HR0 HX0 HQ0 hblk
              have hcx : Y0.cell? ⟨gx, 0, none⟩ = some (.int .i64 0) := (blk_cell hX 0).trans rfl
              have hfx := blk_frozen hX 0
              have hX2 := Aside0.mk (blk_set hX 0 (.int .i64 x))
              have hV2 := Aside0.mk (Kd.S_far hV (p := ⟨gx, 0, none⟩) (fun k hk => Nat.ne_of_lt hk) (.int .i64 x))
              have hQ2 := Aside0.mk (hQ.far x1 x2 (fun k hk => Nat.ne_of_lt hk) 0 (.int .i64 x))
              have hR2 := Aside0.mk (hr.other x3 XG.out 0 (.int .i64 x))
              clear hX hV hQ hr hk hrel
              go_upto_region 20 with (fail)
              clear hcx hfx
              generalize Y0.setCell ⟨gx, 0, none⟩ (.int .i64 x) = X1 at *
              have HX1 : Aside0 (X1.heap[gx]? = some (.cells #[.int .i64 x, .int .i64 0, .int .i64 0, .slice none 0 0] 54 (0, 0))) := ⟨hX2.out⟩
              have HV1 := hV2
              have HR1 := hR2
              have HQ1 := hQ2
              clear hX2 hV2 hR2 hQ2
              go_wp2_with (fail)
              go_at_call 36
              (with_reducible refine (rrnum gr m1 f1 w _ HR1.out).mono ?_)
              rintro e Y1 ⟨hk, y, m2, f2, rfl, hr, hrel⟩
              obtain ⟨Ab, cb, hblk, _, _⟩ := HR1.out.blk
              have hV := Kd.S_mono (Kd.S_keep (Kd.S_types HV1.out hblk (by decide)) hk (fun _ hk => hk.2)) (ok' := fun k => k < gx) (fun _ hk => hk.1)
              have hQ := HQ1.out.keep HR1.out hk
              have hX := hk.blk HX1.out x3 (by simp)
              have HE2 := Aside0.mk hrel
              clear HV1 HR1 HX1 HQ1 hblk
              have hcx : Y1.cell? ⟨gx, 1, none⟩ = some (.int .i64 0) := (blk_cell hX 1).trans rfl
              have hfx := blk_frozen hX 1
              have hX2 := Aside0.mk (blk_set hX 1 (.int .i64 y))
              have hV2 := Aside0.mk (Kd.S_far hV (p := ⟨gx, 1, none⟩) (fun k hk => Nat.ne_of_lt hk) (.int .i64 y))
              have hQ2 := Aside0.mk (hQ.far x1 x2 (fun k hk => Nat.ne_of_lt hk) 1 (.int .i64 y))
              have hR2 := Aside0.mk (hr.other x3 XG.out 1 (.int .i64 y))
              clear hX hV hQ hr hk hrel
              go_upto_region 21 with (fail)
              clear hcx hfx
              generalize Y1.setCell ⟨gx, 1, none⟩ (.int .i64 y) = X2 at *
              have HX2 : Aside0 (X2.heap[gx]? = some (.cells #[.int .i64 x, .int .i64 y, .int .i64 0, .slice none 0 0] 54 (0, 0))) := ⟨hX2.out⟩
              have HV2 := hV2
              have HR2 := hR2
              have HQ2 := hQ2
              clear hX2 hV2 hR2 hQ2
              go_wp2_with (fail)
              go_at_call 36
              (with_reducible refine (rrnum gr m2 f2 w _ HR2.out).mono ?_)
              rintro e Y2 ⟨hk, t, m3, f3, rfl, hr, hrel⟩
              obtain ⟨Ab, cb, hblk, _, _⟩ := HR2.out.blk
              have hV := Kd.S_mono (Kd.S_keep (Kd.S_types HV2.out hblk (by decide)) hk (fun _ hk => hk.2)) (ok' := fun k => k < gx) (fun _ hk => hk.1)
              have hQ := HQ2.out.keep HR2.out hk
              have hX := hk.blk HX2.out x3 (by simp)
              have HE3 := Aside0.mk hrel
              clear HV2 HR2 HX2 HQ2 hblk
              have hcx : Y2.cell? ⟨gx, 2, none⟩ = some (.int .i64 0) := (blk_cell hX 2).trans rfl
              have hfx := blk_frozen hX 2
              have hX2 := Aside0.mk (blk_set hX 2 (.int .i64 t))
              have hV2 := Aside0.mk (Kd.S_far hV (p := ⟨gx, 2, none⟩) (fun k hk => Nat.ne_of_lt hk) (.int .i64 t))
              have hQ2 := Aside0.mk (hQ.far x1 x2 (fun k hk => Nat.ne_of_lt hk) 2 (.int .i64 t))
              have hR2 := Aside0.mk (hr.other x3 XG.out 2 (.int .i64 t))
              clear hX hV hQ hr hk hrel
              go_upto_region 22 with (fail)
              clear hcx hfx
              generalize Y2.setCell ⟨gx, 2, none⟩ (.int .i64 t) = X3 at *
              have HX3 : Aside0 (X3.heap[gx]? = some (.cells #[.int .i64 x, .int .i64 y, .int .i64 t, .slice none 0 0] 54 (0, 0))) := ⟨hX2.out⟩
              have HV3 := hV2
              have HR3 := hR2
              have HQ3 := hQ2
              clear hX2 hV2 hR2 hQ2
              go_wp2_with (fail)
              go_at_call 39
              obtain ⟨b9, hb9⟩ : ∃ b9, b9 = X3.heap.size := ⟨_, rfl⟩
              have HXB := Aside0.mk (show gx < b9 from hb9 ▸ blk_sz HX3.out)
              (with_reducible refine (rrlist gr m3 f3 w _ HR3.out).mono ?_)
              rintro e Y3 ⟨hk, z, m4, f4, vz, rfl, hvz, hr, hrel⟩
              obtain ⟨Ab, cb, hblk, _, _⟩ := HR3.out.blk
              have hV := Kd.S_mono (Kd.S_keep (Kd.S_types HV3.out hblk (by decide)) hk (fun _ hk => hk.2)) (ok' := fun k => k < gx) (fun _ hk => hk.1)
              have hQ := HQ3.out.keep HR3.out hk
              have hX := hk.blk HX3.out x3 (by simp)
              have HE4 := Aside0.mk hrel
              clear HV3 HR3 HX3 HQ3 hblk
              obtain ⟨Az, cz, rfl⟩ := Kd.R_slice hvz
              rw [← hb9] at hvz
              have hcx : Y3.cell? ⟨gx, 3, none⟩ = some (.slice none 0 0) := (blk_cell hX 3).trans rfl
              have hfx := blk_frozen hX 3
              have hvz2 := Aside0.mk (Kd.R_far (Kd.R_bound hvz) (p := ⟨gx, 3, none⟩) (fun k hk => by have := hk.2.1; have := HXB.out; show k ≠ gx; omega) (.slice Az z.length cz))
              clear hvz
              have hX2 := Aside0.mk (blk_set hX 3 (.slice Az z.length cz))
              have hV2 := Aside0.mk (Kd.S_far hV (p := ⟨gx, 3, none⟩) (fun k hk => Nat.ne_of_lt hk) (.slice Az z.length cz))
              have hQ2 := Aside0.mk (hQ.far x1 x2 (fun k hk => Nat.ne_of_lt hk) 3 (.slice Az z.length cz))
              have hR2 := Aside0.mk (hr.other x3 XG.out 3 (.slice Az z.length cz))
              clear hX hV hQ hr hk hrel
              go_upto_region 23 with (fail)
              clear hcx hfx
              generalize Y3.setCell ⟨gx, 3, none⟩ (.slice Az z.length cz) = X4 at *
              have HX4 : Aside0 (X4.heap[gx]? = some (.cells #[.int .i64 x, .int .i64 y, .int .i64 t, .slice Az z.length cz] 54 (0, 0))) := ⟨hX2.out⟩
              have HV4 := hV2
              have HR4 := hR2
              have HQ4 := hQ2
              clear hX2 hV2 hR2 hQ2
              have hc0 : X4.cell? ⟨gx, 0, none⟩ = some (.int .i64 x) := (blk_cell HX4.out 0).trans rfl
              have hc1 : X4.cell? ⟨gx, 1, none⟩ = some (.int .i64 y) := (blk_cell HX4.out 1).trans rfl
              have hc2 : X4.cell? ⟨gx, 2, none⟩ = some (.int .i64 t) := (blk_cell HX4.out 2).trans rfl
              have hc3 : X4.cell? ⟨gx, 3, none⟩ = some (.slice Az z.length cz) := (blk_cell HX4.out 3).trans rfl
              have HUn := Aside0.mk (show Up2 (finA a b c d (p : Int) acc (ac ++ [(⟨x, ⟨y, t, z⟩⟩ : S54)]) (actsP (m - (j + 1)) m4) = unscriptP l0) (unscriptP l0) f4 from by
                rcases act_chain HE1.out HE2.out HE3.out HE4.out with ⟨h1, h2⟩ | ⟨h1, h2⟩
                · exact .inl ⟨h1, (acts_next hlt h2).symm.trans HF.out⟩
                · exact .inr ⟨h1, HF.out.symm.trans (acts_err hlt h2)⟩)
              have HLL := Aside0.mk (show (ac ++ [(⟨x, ⟨y, t, z⟩⟩ : S54)]).length = j + 1 by rw [List.length_append, HL.out]; rfl)
              have HWX := Aside0.mk (show w.heap.size ≤ X4.heap.size ∧ gx < X4.heap.size from ⟨HR4.out.below.size, blk_sz HX4.out⟩)
              have HM := Aside0.mk (k54_mkM X4 w.heap.size (fun k => b9 ≤ k) (⟨x, ⟨y, t, z⟩⟩ : S54) (Kd.R_lower (Kd.R_mono hvz2.out (fun k hk => hk.2.1)) (by have := XG.out; have := HXB.out; omega)))
              have HO := Aside0.mk (fun k hk => (Kd.S_R HV4.out).1 k hk)
              go_wp2_with (first | ((with_reducible refine gate_builtin (b := .append) (xs := #[.tmp 82, .tmp 84]) rfl ?_); at_builtin; refine Kd.S_append k54 (w0 := X4) w.heap.size rfl (.tmp 82) (.tmp 84) 26 54 (.agg #[.int .i64 0, .int .i64 0, .int .i64 0, .slice none 0 0]) 48 rfl Try.underlying26 (by kernel_rfl) rfl (by decide) (by decide) (.slice A3 ac.length c3) ac (⟨x, ⟨y, t, z⟩⟩ : S54) _ (fun _ => True) (fun k => b9 ≤ k) rfl rfl HM.out (fun k hk => ⟨trivial, fun he => by have h1 : k < gx := HO.out k he.symm; have h2 : b9 ≤ k := hk; have := HXB.out; omega⟩) (fun _ _ => trivial) (Kd.S_mono HV4.out (fun k hk => ⟨trivial, by have h3 : k < gx := hk; have := HXB.out; omega⟩)) (Below.refl _ _) HWX.out.1 (by have := HL.out; have := HNm.out; omega) ?_; intro v1 w1 hS1 hb1 hg1 hat1))
              go_roundg g2
              case measure => omega
              case rel =>
                have hbase := fun k hk => Kd.S_base HV4.out k hk
                have hn9 := HNm.out
                obtain ⟨A9, c9, hblk2, _, _⟩ := HR4.out.blk
                exact ⟨j + 1, ac ++ [(⟨x, ⟨y, t, z⟩⟩ : S54)], m4, f4, by omega, by omega, by first | rfl | rw [wrap_succ j (by omega)], HLL, ⟨hS1⟩, ⟨(HQ4.out.over HV4.out hg1).mono (fun _ _ => trivial)⟩, ⟨HR4.out.grown hg1 (fun k hk => ⟨hbase k hk, fun e => Kd.R_ne (Kd.S_R HV4.out) hblk2 (by decide) (e ▸ hk.symm)⟩)⟩, HUn⟩
            · have c1b : e4 = 0 → decide ((j : Int) < (m : Int)) = false := fun h => decide_eq_false (by omega)
              by_cases he4 : e4 = 0
              · subst he4
                have c2b : decide ((j : Int) < (m : Int)) = false := c1b rfl
                have HF := Aside0.mk (show finA a b c d (p : Int) acc ac (actsP 0 l4) = unscriptP l0 from by
                  rcases HU.out with ⟨_, h⟩ | ⟨h, _⟩
                  · rw [show m - j = 0 by omega] at h; exact h
                  · exact absurd rfl h)
                clear HU
                go_wp2_with (fail)
                go_at_call 40
                (with_reducible refine (rrover gr l4 0 w _ HR.out).mono ?_)
                rintro e W9 ⟨hk, e9, rfl, hr, hrel⟩
                obtain ⟨Ab, cb, hblk, _, _⟩ := HR.out.blk
                have HV9 := Aside0.mk (Kd.S_mono (Kd.S_keep (Kd.S_types HV.out hblk (by decide)) hk (fun _ hk => hk.2)) (ok' := fun _ => True) (fun _ _ => trivial))
                have HQ9 := Aside0.mk (HQ.out.keep HR.out hk)
                rcases hrel with ⟨_, ⟨hl, h9⟩ | ⟨hl, h9⟩⟩ | ⟨h0, _⟩
                · subst h9
                  obtain ⟨q1, q2⟩ := outp_ok H.out (HF.out.symm.trans (show finA a b c d (p : Int) acc ac (actsP 0 l4) = .ok ⟨a, b, c, d, (p : Int), acc, ac⟩ by rw [hl]; simp [actsP, finA]))
                  have HQ1 := Aside0.mk q1
                  have HQ2 := Aside0.mk q2
                  obtain ⟨A5, c5, e5⟩ := Kd.R_slice (Kd.S_R HQ9.out.S)
                  subst e5
                  have hfin := HQ9.out.fin HV9.out hr.below
                  have HFI := Aside0.mk hfin
                  have hca0 : W9.cell? ⟨gc, 0, none⟩ = some (.int .i64 a) := (blk_cell HQ9.out.bc 0).trans rfl
                  have hcb0 : W9.cell? ⟨gq, 0, none⟩ = some (.int .i64 0) := (blk_cell HQ9.out.bq 0).trans rfl
                  have hcf0 := blk_frozen HQ9.out.bq 0
                  have hca1 : W9.cell? ⟨gc, 1, none⟩ = some (.int .i64 b) := (blk_cell HQ9.out.bc 1).trans rfl
                  have hcb1 : W9.cell? ⟨gq, 1, none⟩ = some (.int .i64 0) := (blk_cell HQ9.out.bq 1).trans rfl
                  have hcf1 := blk_frozen HQ9.out.bq 1
                  have hca2 : W9.cell? ⟨gc, 2, none⟩ = some (.int .i64 c) := (blk_cell HQ9.out.bc 2).trans rfl
                  have hcb2 : W9.cell? ⟨gq, 2, none⟩ = some (.int .i64 0) := (blk_cell HQ9.out.bq 2).trans rfl
                  have hcf2 := blk_frozen HQ9.out.bq 2
                  have hca3 : W9.cell? ⟨gc, 3, none⟩ = some (.int .i64 d) := (blk_cell HQ9.out.bc 3).trans rfl
                  have hcb3 : W9.cell? ⟨gq, 3, none⟩ = some (.int .i64 0) := (blk_cell HQ9.out.bq 3).trans rfl
                  have hcf3 := blk_frozen HQ9.out.bq 3
                  have hca4 : W9.cell? ⟨gc, 4, none⟩ = some (.int .u64 (p : Int)) := (blk_cell HQ9.out.bc 4).trans rfl
                  have hcb4 : W9.cell? ⟨gq, 4, none⟩ = some (.int .u64 0) := (blk_cell HQ9.out.bq 4).trans rfl
                  have hcf4 := blk_frozen HQ9.out.bq 4
                  have hca5 : W9.cell? ⟨gc, 5, none⟩ = some (.slice A5 acc.length c5) := (blk_cell HQ9.out.bc 5).trans rfl
                  have hcb5 : W9.cell? ⟨gq, 5, none⟩ = some (.slice none 0 0) := (blk_cell HQ9.out.bq 5).trans rfl
                  have hcf5 := blk_frozen HQ9.out.bq 5
                  clear q1 q2 hr hk hl HF hblk hfin hc1 hf1
                  go_wp2_with (fail)
                  refine bodyPost_ret (uq_res rfl rfl rfl HFI.out.1) rfl ?_
                  obtain ⟨_, hl5, hC5⟩ := Kd.S_reads' HFI.out.2.1
                  obtain ⟨_, hl6, hC6⟩ := Kd.S_reads' HFI.out.2.2.1
                  have q1 := HQ1.out
                  have q2 := HQ2.out
                  subst q1 q2
                  exact ⟨A5, A3, c5, c3, rfl, hC5, hl5, hC6, hl6, HFI.out.2.2.2⟩
                · have HT := Aside0.mk (show unscriptP l0 = .error e9 from HF.out.symm.trans (by rw [h9]; cases l4 with | nil => exact absurd rfl hl | cons c r => rfl))
                  have h9' : e9 ≠ 0 := by rw [h9]; decide
                  clear h9 hl HF hblk hk hc1 hf1
                  obtain ⟨hc9, hf9⟩ := hr.e1
                  have HR9 := Aside0.mk hr
                  clear hr
                  go_upto_region 25 with (fail)
                  refine start_ (n := 8) (S := fun wc => wc.cell? ⟨gr, 1, none⟩ = some (.int .i64 e9)) (ds := []) #[false, false, false, false, false, false, false, false] (by kernel_rfl) rfl rfl ((HR9.out.step (below_drew (Below.refl _ _))).e1.1) (fun hS => ?_)
                  refine pure_ (i := 0) (N := some 89) (v := ?_) (a' := ?_) #[true, false, false, false, false, false, false, false] rfl rfl (by kernel_rfl) (fun _ _ _ h => h) (Or.inl ⟨by rfl, ?_⟩) ?_ ?_
                  rotate_left
                  · intro w'
                    go_simp
                    try (with_reducible rfl)
                  rotate_left
                  · simp only [Act.put, List.setIfInBounds_toArray, List.set_cons_zero, List.set_cons_succ]
                    rfl
                  refine pure_ (i := 1) (N := some 90) (v := ?_) (a' := ?_) #[true, true, false, false, false, false, false, false] rfl rfl (by kernel_rfl) (fun _ _ _ h => h) (Or.inl ⟨by rfl, ?_⟩) ?_ ?_
                  rotate_left
                  · intro w'
                    go_simp
                    try (with_reducible rfl)
                  rotate_left
                  · simp only [Act.put, List.setIfInBounds_toArray, List.set_cons_zero, List.set_cons_succ]
                    rfl
                  refine pure_ (i := 2) (N := some 91) (v := ?_) (a' := ?_) #[true, true, true, false, false, false, false, false] rfl rfl (by kernel_rfl) (fun _ _ _ h => h) (Or.inl ⟨by rfl, ?_⟩) ?_ ?_
                  rotate_left
                  · intro w'
                    go_simp
                    try (with_reducible rfl)
                  rotate_left
                  · simp only [Act.put, List.setIfInBounds_toArray, List.set_cons_zero, List.set_cons_succ]
                    rfl
                  refine pure_ (i := 3) (N := some 92) (v := ?_) (a' := ?_) #[true, true, true, true, false, false, false, false] rfl rfl (by kernel_rfl) (fun _ _ _ h => h) (Or.inl ⟨by rfl, ?_⟩) ?_ ?_
                  rotate_left
                  · intro w'
                    go_simp
                    try (with_reducible rfl)
                  rotate_left
                  · simp only [Act.put, List.setIfInBounds_toArray, List.set_cons_zero, List.set_cons_succ]
                    rfl
                  refine take_ (i := 4) (N := some 93) (v := ?_) (a' := ?_) #[true, true, true, true, true, false, false, false] rfl rfl (by kernel_rfl) (fun _ _ _ h => h) (Or.inl ⟨by rfl, ?_⟩) hS ?_ ?_
                  rotate_left
                  · intro w' hw
                    simp [go_sem, hw]
                    try (with_reducible rfl)
                  rotate_left
                  · simp only [Act.put, List.setIfInBounds_toArray, List.set_cons_zero, List.set_cons_succ]
                    rfl
                  have HQd := Aside0.mk (HQ9.out.below (below_drew (Below.refl W9.heap.size W9)))
                  have HBd := Aside0.mk (HR9.out.step (below_drew (Below.refl W9.heap.size W9))).below
                  obtain ⟨Ad, cd, hbd9, _, _⟩ := (HR9.out.step (below_drew (Below.refl W9.heap.size W9))).blk
                  have hS5 : (W9.drew.setCells gq 0 [.int .i64 0, .int .i64 0, .int .i64 0, .int .i64 0, .int .u64 0, .slice none 0 0]).cell? ⟨gr, 1, none⟩ = some (.int .i64 e9) := (blk_cell ((Ivs.stored_other (g := gq) (j := gr) (fun e => HQd.out.n3 e.symm) [.int .i64 0, .int .i64 0, .int .i64 0, .int .i64 0, .int .u64 0, .slice none 0 0] 0 W9.drew).trans hbd9) 1).trans rfl
                  clear hbd9
                  refine one_ (i := 5) (N := none) #[true, true, true, true, true, true, false, false] rfl rfl (by kernel_rfl) (by simp) (fun K hK => ?_)
                  refine skip_ (w1 := W9.drew.setCells gq 0 [.int .i64 0, .int .i64 0, .int .i64 0, .int .i64 0, .int .u64 0, .slice none 0 0]) (by rfl) rfl (Ivs.exec_store 25 (.tmp 2) (.tmp 89) rfl rfl rfl HQd.out.bq rfl (by kernel_rfl) (by intro q hq; simp only [List.mem_cons, List.not_mem_nil, or_false] at hq; rcases hq with rfl | rfl | rfl | rfl | rfl | rfl <;> rfl)) ?_
                  refine hK.out _ _ hS5 (fun _ => ?_)
                  clear hK K
                  refine pure_ (i := 6) (N := some 3) (v := ?_) (a' := ?_) #[true, true, true, true, true, true, true, false] rfl rfl (by kernel_rfl) (fun _ _ _ h => h) (Or.inl ⟨by rfl, ?_⟩) ?_ ?_
                  rotate_left
                  · intro w'
                    go_simp
                    try (with_reducible rfl)
                  rotate_left
                  · simp only [Act.put, List.setIfInBounds_toArray, List.set_cons_zero, List.set_cons_succ]
                    rfl
                  refine pure_ (i := 7) (N := some 4) (v := ?_) (a' := ?_) #[true, true, true, true, true, true, true, true] rfl rfl (by kernel_rfl) (fun _ _ _ h => h) (Or.inl ⟨by rfl, ?_⟩) ?_ ?_
                  rotate_left
                  · intro w'
                    go_simp
                    try (with_reducible rfl)
                  rotate_left
                  · simp only [Act.put, List.setIfInBounds_toArray, List.set_cons_zero, List.set_cons_succ]
                    rfl
                  refine done_ (by kernel_rfl) ?_
                  have hst := Ivs.stored (new := #[.int .i64 0, .int .i64 0, .int .i64 0, .int .i64 0, .int .u64 0, .slice none 0 0]) HQd.out.bq rfl
                  have hbd := Ivs.below_stored (g := gq) [.int .i64 0, .int .i64 0, .int .i64 0, .int .i64 0, .int .u64 0, .slice none 0 0] 0 _ HBd.out HQd.out.g1
                  have HST := Aside0.mk hst
                  have HBS := Aside0.mk hbd
                  clear hst hbd hS hc9 hf9
                  go_wp2_with (fail)
                  refine bodyPost_ret (uq_res rfl rfl rfl HST.out) rfl ?_
                  obtain ⟨rfl, rfl⟩ := outp_err H.out HT.out
                  exact ⟨none, none, 0, 0, rfl, ⟨rfl, Nat.zero_le _, fun h => absurd h (Nat.lt_irrefl 0)⟩, Nat.le_refl _, ⟨rfl, Nat.zero_le _, fun h => absurd h (Nat.lt_irrefl 0)⟩, Nat.le_refl _, HBS.out⟩
                · exact absurd rfl h0
              · have HT0 := Aside0.mk (show unscriptP l0 = .error e4 from by
                  rcases HU.out with ⟨h, _⟩ | ⟨_, h⟩
                  · exact absurd h he4
                  · exact h)
                clear HU
                by_cases hlt2 : j < m
                · have c2b : decide ((j : Int) < (m : Int)) = true := decide_eq_true (by omega)
                  go_wp2_with (fail)
                  go_at_call 40
                  (with_reducible refine (rrover gr l4 e4 w _ HR.out).mono ?_)
                  rintro e W9 ⟨hk, e9, rfl, hr, ⟨h0, _⟩ | ⟨_, h9⟩⟩
                  · exact absurd h0 he4
                  have HT := Aside0.mk (show unscriptP l0 = .error e9 by rw [h9]; exact HT0.out)
                  have h9' : e9 ≠ 0 := by rw [h9]; exact he4
                  have HQ9 := Aside0.mk (HQ.out.keep HR.out hk)
                  clear h9 hk hc1 hf1
                  obtain ⟨hc9, hf9⟩ := hr.e1
                  have HR9 := Aside0.mk hr
                  clear hr
                  go_upto_region 25 with (fail)
                  refine start_ (n := 8) (S := fun wc => wc.cell? ⟨gr, 1, none⟩ = some (.int .i64 e9)) (ds := []) #[false, false, false, false, false, false, false, false] (by kernel_rfl) rfl rfl ((HR9.out.step (below_drew (Below.refl _ _))).e1.1) (fun hS => ?_)
                  refine pure_ (i := 0) (N := some 89) (v := ?_) (a' := ?_) #[true, false, false, false, false, false, false, false] rfl rfl (by kernel_rfl) (fun _ _ _ h => h) (Or.inl ⟨by rfl, ?_⟩) ?_ ?_
                  rotate_left
                  · intro w'
                    go_simp
                    try (with_reducible rfl)
                  rotate_left
                  · simp only [Act.put, List.setIfInBounds_toArray, List.set_cons_zero, List.set_cons_succ]
                    rfl
                  refine pure_ (i := 1) (N := some 90) (v := ?_) (a' := ?_) #[true, true, false, false, false, false, false, false] rfl rfl (by kernel_rfl) (fun _ _ _ h => h) (Or.inl ⟨by rfl, ?_⟩) ?_ ?_
                  rotate_left
                  · intro w'
                    go_simp
                    try (with_reducible rfl)
                  rotate_left
                  · simp only [Act.put, List.setIfInBounds_toArray, List.set_cons_zero, List.set_cons_succ]
                    rfl
                  refine pure_ (i := 2) (N := some 91) (v := ?_) (a' := ?_) #[true, true, true, false, false, false, false, false] rfl rfl (by kernel_rfl) (fun _ _ _ h => h) (Or.inl ⟨by rfl, ?_⟩) ?_ ?_
                  rotate_left
                  · intro w'
                    go_simp
                    try (with_reducible rfl)
                  rotate_left
                  · simp only [Act.put, List.setIfInBounds_toArray, List.set_cons_zero, List.set_cons_succ]
                    rfl
                  refine pure_ (i := 3) (N := some 92) (v := ?_) (a' := ?_) #[true, true, true, true, false, false, false, false] rfl rfl (by kernel_rfl) (fun _ _ _ h => h) (Or.inl ⟨by rfl, ?_⟩) ?_ ?_
                  rotate_left
                  · intro w'
                    go_simp
                    try (with_reducible rfl)
                  rotate_left
                  · simp only [Act.put, List.setIfInBounds_toArray, List.set_cons_zero, List.set_cons_succ]
                    rfl
                  refine take_ (i := 4) (N := some 93) (v := ?_) (a' := ?_) #[true, true, true, true, true, false, false, false] rfl rfl (by kernel_rfl) (fun _ _ _ h => h) (Or.inl ⟨by rfl, ?_⟩) hS ?_ ?_
                  rotate_left
                  · intro w' hw
                    simp [go_sem, hw]
                    try (with_reducible rfl)
                  rotate_left
                  · simp only [Act.put, List.setIfInBounds_toArray, List.set_cons_zero, List.set_cons_succ]
                    rfl
                  have HQd := Aside0.mk (HQ9.out.below (below_drew (Below.refl W9.heap.size W9)))
                  have HBd := Aside0.mk (HR9.out.step (below_drew (Below.refl W9.heap.size W9))).below
                  obtain ⟨Ad, cd, hbd9, _, _⟩ := (HR9.out.step (below_drew (Below.refl W9.heap.size W9))).blk
                  have hS5 : (W9.drew.setCells gq 0 [.int .i64 0, .int .i64 0, .int .i64 0, .int .i64 0, .int .u64 0, .slice none 0 0]).cell? ⟨gr, 1, none⟩ = some (.int .i64 e9) := (blk_cell ((Ivs.stored_other (g := gq) (j := gr) (fun e => HQd.out.n3 e.symm) [.int .i64 0, .int .i64 0, .int .i64 0, .int .i64 0, .int .u64 0, .slice none 0 0] 0 W9.drew).trans hbd9) 1).trans rfl
                  clear hbd9
                  refine one_ (i := 5) (N := none) #[true, true, true, true, true, true, false, false] rfl rfl (by kernel_rfl) (by simp) (fun K hK => ?_)
                  refine skip_ (w1 := W9.drew.setCells gq 0 [.int .i64 0, .int .i64 0, .int .i64 0, .int .i64 0, .int .u64 0, .slice none 0 0]) (by rfl) rfl (Ivs.exec_store 25 (.tmp 2) (.tmp 89) rfl rfl rfl HQd.out.bq rfl (by kernel_rfl) (by intro q hq; simp only [List.mem_cons, List.not_mem_nil, or_false] at hq; rcases hq with rfl | rfl | rfl | rfl | rfl | rfl <;> rfl)) ?_
                  refine hK.out _ _ hS5 (fun _ => ?_)
                  clear hK K
                  refine pure_ (i := 6) (N := some 3) (v := ?_) (a' := ?_) #[true, true, true, true, true, true, true, false] rfl rfl (by kernel_rfl) (fun _ _ _ h => h) (Or.inl ⟨by rfl, ?_⟩) ?_ ?_
                  rotate_left
                  · intro w'
                    go_simp
                    try (with_reducible rfl)
                  rotate_left
                  · simp only [Act.put, List.setIfInBounds_toArray, List.set_cons_zero, List.set_cons_succ]
                    rfl
                  refine pure_ (i := 7) (N := some 4) (v := ?_) (a' := ?_) #[true, true, true, true, true, true, true, true] rfl rfl (by kernel_rfl) (fun _ _ _ h => h) (Or.inl ⟨by rfl, ?_⟩) ?_ ?_
                  rotate_left
                  · intro w'
                    go_simp
                    try (with_reducible rfl)
                  rotate_left
                  · simp only [Act.put, List.setIfInBounds_toArray, List.set_cons_zero, List.set_cons_succ]
                    rfl
                  refine done_ (by kernel_rfl) ?_
                  have hst := Ivs.stored (new := #[.int .i64 0, .int .i64 0, .int .i64 0, .int .i64 0, .int .u64 0, .slice none 0 0]) HQd.out.bq rfl
                  have hbd := Ivs.below_stored (g := gq) [.int .i64 0, .int .i64 0, .int .i64 0, .int .i64 0, .int .u64 0, .slice none 0 0] 0 _ HBd.out HQd.out.g1
                  have HST := Aside0.mk hst
                  have HBS := Aside0.mk hbd
                  clear hst hbd hS hc9 hf9
                  go_wp2_with (fail)
                  refine bodyPost_ret (uq_res rfl rfl rfl HST.out) rfl ?_
                  obtain ⟨rfl, rfl⟩ := outp_err H.out HT.out
                  exact ⟨none, none, 0, 0, rfl, ⟨rfl, Nat.zero_le _, fun h => absurd h (Nat.lt_irrefl 0)⟩, Nat.le_refl _, ⟨rfl, Nat.zero_le _, fun h => absurd h (Nat.lt_irrefl 0)⟩, Nat.le_refl _, HBS.out⟩
                
                · have c2b : decide ((j : Int) < (m : Int)) = false := decide_eq_false (by omega)
                  go_wp2_with (fail)
                  go_at_call 40
                  (with_reducible refine (rrover gr l4 e4 w _ HR.out).mono ?_)
                  rintro e W9 ⟨hk, e9, rfl, hr, ⟨h0, _⟩ | ⟨_, h9⟩⟩
                  · exact absurd h0 he4
                  have HT := Aside0.mk (show unscriptP l0 = .error e9 by rw [h9]; exact HT0.out)
                  have h9' : e9 ≠ 0 := by rw [h9]; exact he4
                  have HQ9 := Aside0.mk (HQ.out.keep HR.out hk)
                  clear h9 hk hc1 hf1
                  obtain ⟨hc9, hf9⟩ := hr.e1
                  have HR9 := Aside0.mk hr
                  clear hr
                  go_upto_region 25 with (fail)
                  refine start_ (n := 8) (S := fun wc => wc.cell? ⟨gr, 1, none⟩ = some (.int .i64 e9)) (ds := []) #[false, false, false, false, false, false, false, false] (by kernel_rfl) rfl rfl ((HR9.out.step (below_drew (Below.refl _ _))).e1.1) (fun hS => ?_)
                  refine pure_ (i := 0) (N := some 89) (v := ?_) (a' := ?_) #[true, false, false, false, false, false, false, false] rfl rfl (by kernel_rfl) (fun _ _ _ h => h) (Or.inl ⟨by rfl, ?_⟩) ?_ ?_
                  rotate_left
                  · intro w'
                    go_simp
                    try (with_reducible rfl)
                  rotate_left
                  · simp only [Act.put, List.setIfInBounds_toArray, List.set_cons_zero, List.set_cons_succ]
                    rfl
                  refine pure_ (i := 1) (N := some 90) (v := ?_) (a' := ?_) #[true, true, false, false, false, false, false, false] rfl rfl (by kernel_rfl) (fun _ _ _ h => h) (Or.inl ⟨by rfl, ?_⟩) ?_ ?_
                  rotate_left
                  · intro w'
                    go_simp
                    try (with_reducible rfl)
                  rotate_left
                  · simp only [Act.put, List.setIfInBounds_toArray, List.set_cons_zero, List.set_cons_succ]
                    rfl
                  refine pure_ (i := 2) (N := some 91) (v := ?_) (a' := ?_) #[true, true, true, false, false, false, false, false] rfl rfl (by kernel_rfl) (fun _ _ _ h => h) (Or.inl ⟨by rfl, ?_⟩) ?_ ?_
                  rotate_left
                  · intro w'
                    go_simp
                    try (with_reducible rfl)
                  rotate_left
                  · simp only [Act.put, List.setIfInBounds_toArray, List.set_cons_zero, List.set_cons_succ]
                    rfl
                  refine pure_ (i := 3) (N := some 92) (v := ?_) (a' := ?_) #[true, true, true, true, false, false, false, false] rfl rfl (by kernel_rfl) (fun _ _ _ h => h) (Or.inl ⟨by rfl, ?_⟩) ?_ ?_
                  rotate_left
                  · intro w'
                    go_simp
                    try (with_reducible rfl)
                  rotate_left
                  · simp only [Act.put, List.setIfInBounds_toArray, List.set_cons_zero, List.set_cons_succ]
                    rfl
                  refine take_ (i := 4) (N := some 93) (v := ?_) (a' := ?_) #[true, true, true, true, true, false, false, false] rfl rfl (by kernel_rfl) (fun _ _ _ h => h) (Or.inl ⟨by rfl, ?_⟩) hS ?_ ?_
                  rotate_left
                  · intro w' hw
                    simp [go_sem, hw]
                    try (with_reducible rfl)
                  rotate_left
                  · simp only [Act.put, List.setIfInBounds_toArray, List.set_cons_zero, List.set_cons_succ]
                    rfl
                  have HQd := Aside0.mk (HQ9.out.below (below_drew (Below.refl W9.heap.size W9)))
                  have HBd := Aside0.mk (HR9.out.step (below_drew (Below.refl W9.heap.size W9))).below
                  obtain ⟨Ad, cd, hbd9, _, _⟩ := (HR9.out.step (below_drew (Below.refl W9.heap.size W9))).blk
                  have hS5 : (W9.drew.setCells gq 0 [.int .i64 0, .int .i64 0, .int .i64 0, .int .i64 0, .int .u64 0, .slice none 0 0]).cell? ⟨gr, 1, none⟩ = some (.int .i64 e9) := (blk_cell ((Ivs.stored_other (g := gq) (j := gr) (fun e => HQd.out.n3 e.symm) [.int .i64 0, .int .i64 0, .int .i64 0, .int .i64 0, .int .u64 0, .slice none 0 0] 0 W9.drew).trans hbd9) 1).trans rfl
                  clear hbd9
                  refine one_ (i := 5) (N := none) #[true, true, true, true, true, true, false, false] rfl rfl (by kernel_rfl) (by simp) (fun K hK => ?_)
                  refine skip_ (w1 := W9.drew.setCells gq 0 [.int .i64 0, .int .i64 0, .int .i64 0, .int .i64 0, .int .u64 0, .slice none 0 0]) (by rfl) rfl (Ivs.exec_store 25 (.tmp 2) (.tmp 89) rfl rfl rfl HQd.out.bq rfl (by kernel_rfl) (by intro q hq; simp only [List.mem_cons, List.not_mem_nil, or_false] at hq; rcases hq with rfl | rfl | rfl | rfl | rfl | rfl <;> rfl)) ?_
                  refine hK.out _ _ hS5 (fun _ => ?_)
                  clear hK K
                  refine pure_ (i := 6) (N := some 3) (v := ?_) (a' := ?_) #[true, true, true, true, true, true, true, false] rfl rfl (by kernel_rfl) (fun _ _ _ h => h) (Or.inl ⟨by rfl, ?_⟩) ?_ ?_
                  rotate_left
                  · intro w'
                    go_simp
                    try (with_reducible rfl)
                  rotate_left
                  · simp only [Act.put, List.setIfInBounds_toArray, List.set_cons_zero, List.set_cons_succ]
                    rfl
                  refine pure_ (i := 7) (N := some 4) (v := ?_) (a' := ?_) #[true, true, true, true, true, true, true, true] rfl rfl (by kernel_rfl) (fun _ _ _ h => h) (Or.inl ⟨by rfl, ?_⟩) ?_ ?_
                  rotate_left
                  · intro w'
                    go_simp
                    try (with_reducible rfl)
                  rotate_left
                  · simp only [Act.put, List.setIfInBounds_toArray, List.set_cons_zero, List.set_cons_succ]
                    rfl
                  refine done_ (by kernel_rfl) ?_
                  have hst := Ivs.stored (new := #[.int .i64 0, .int .i64 0, .int .i64 0, .int .i64 0, .int .u64 0, .slice none 0 0]) HQd.out.bq rfl
                  have hbd := Ivs.below_stored (g := gq) [.int .i64 0, .int .i64 0, .int .i64 0, .int .i64 0, .int .u64 0, .slice none 0 0] 0 _ HBd.out HQd.out.g1
                  have HST := Aside0.mk hst
                  have HBS := Aside0.mk hbd
                  clear hst hbd hS hc9 hf9
                  go_wp2_with (fail)
                  refine bodyPost_ret (uq_res rfl rfl rfl HST.out) rfl ?_
                  obtain ⟨rfl, rfl⟩ := outp_err H.out HT.out
                  exact ⟨none, none, 0, 0, rfl, ⟨rfl, Nat.zero_le _, fun h => absurd h (Nat.lt_irrefl 0)⟩, Nat.le_refl _, ⟨rfl, Nat.zero_le _, fun h => absurd h (Nat.lt_irrefl 0)⟩, Nat.le_refl _, HBS.out⟩
        · have c2b : decide ((i : Int) < (n : Int)) = false := decide_eq_false (by omega)
          go_wp2_with (fail)
          go_at_call 38
          (refine (rrmany 4096 (by decide) gr l' e' w _ HR.out).mono ?_)
          rintro e W7 ⟨hk, m, l7, e7, rfl, hm, hr, hrel⟩
          have HU := Aside0.mk (mid_chain HM.out hrel)
          have HQa := Aside0.mk (HQ.out.keep HR.out hk)
          have HRa := Aside0.mk hr
          have HNm := Aside0.mk hm
          clear hk hr hrel hm HQ HR HM hc1 hf1
          go_wp2_with (fail)
          go_loopg [9, 10] (m + 1) (fun kq v9 v10 wc => ∃ (j : Nat) (ac : List S54) (l4 : List Int) (e4 : Int), j ≤ m ∧ m < j + kq ∧ v10 = .int .i64 (j : Int) ∧ Aside0 (ac.length = j) ∧ Aside0 (Kd.S k54 54 wc w.heap.size (fun _ => True) v9 ac) ∧ Aside0 (Uq w gq gc gr (fun _ => True) wc (.int .i64 a) (.int .i64 b) (.int .i64 c) (.int .i64 d) (.int .u64 (p : Int)) v acc) ∧ Aside0 (Rs w gr wc l4 e4) ∧ Aside0 (Up2 (finA a b c d (p : Int) acc ac (actsP (m - j) l4) = unscriptP l0) (unscriptP l0) e4))
          case atStart => exact ⟨0, [], l7, e7, by omega, by omega, rfl, ⟨rfl⟩, ⟨Kd.S_nil _ _ _ _ _⟩, HQa, HRa, HU⟩
          case round =>
            clear HQa HRa HU
            obtain ⟨j, ac, l4, e4, hj, hjk, rfl, HL, HV, HQ, HR, HU⟩ := hrel
            cases gk with
            | zero => omega
            | succ g2 =>
            obtain ⟨hc1, hf1⟩ := HR.out.e1
            obtain ⟨A3, c3, rfl⟩ := Kd.R_slice (Kd.S_R HV.out)
            by_cases hgo2 : j < m ∧ e4 = 0
            · obtain ⟨hlt, rfl⟩ := hgo2
              have c1b : decide ((j : Int) < (m : Int)) = true := decide_eq_true (by omega)
              have HF := Aside0.mk (show finA a b c d (p : Int) acc ac (actsP (m - j) l4) = unscriptP l0 from by
                rcases HU.out with ⟨_, h⟩ | ⟨h, _⟩
                · exact h
                · exact absurd rfl h)
              clear HU
              go_upto_region 19 with (fail)
              have hbx := blk_new wr (.cells #[.int .i64 0, .int .i64 0, .int .i64 0, .slice none 0 0] 54)
              have hax : Below wr.heap.size wr _ := below_alloc (Below.refl _ _) (.cells #[.int .i64 0, .int .i64 0, .int .i64 0, .slice none 0 0] 54)
              have hV1 := Kd.S_mono (Kd.S_old HV.out hax) (ok' := fun k => k < wr.heap.size) (fun _ hk => hk.2)
              have hQ1 := (HQ.out.bound.below hax).mono (ok' := fun k => k < wr.heap.size) (fun _ hk => hk.2)
              have hR1 := HR.out.step hax
              have q1 := blk_sz HQ.out.bc
              have q2 := blk_sz HQ.out.bq
              have q3 := HR.out.lt
              have q4 := HR.out.below.size
              clear HV HR HQ hax hc1 hf1
              generalize wr.alloc (.cells #[.int .i64 0, .int .i64 0, .int .i64 0, .slice none 0 0] 54) = X0 at *
              obtain ⟨gx, hgx⟩ : ∃ gx, gx = wr.heap.size := ⟨_, rfl⟩
              rw [← hgx] at hbx q1 q2 q3 hV1 hQ1 ⊢
              have x1 : gx ≠ gc := by omega
              have x2 : gx ≠ gq := by omega
              have x3 : gx ≠ gr := by omega
              have XG := Aside0.mk (show w.heap.size ≤ gx by omega)
              clear q1 q2 q3 q4 hgx
              have HV0 := Aside0.mk hV1
              have HQ0 := Aside0.mk hQ1
              have HR0 := Aside0.mk hR1
              have HX0 := Aside0.mk hbx
              clear hV1 hQ1 hR1 hbx
              go_wp2_with (fail)
              go_at_call 36
              (with_reducible refine (rrnum gr l4 0 w _ HR0.out).mono ?_)
              rintro e Y0 ⟨hk, x, m1, f1, rfl, hr, hrel⟩
              obtain ⟨Ab, cb, hblk, _, _⟩ := HR0.out.blk
              have hV := Kd.S_mono (Kd.S_keep (Kd.S_types HV0.out hblk (by decide)) hk (fun _ hk => hk.2)) (ok' := fun k => k < gx) (fun _ hk => hk.1)
              have hQ := HQ0.out.keep HR0.out hk
              have hX := hk.blk HX0.out x3 (by simp)
              have HE1 := Aside0.mk hrel
              clear HV0 HR0 HX0 HQ0 hblk
              have hcx : Y0.cell? ⟨gx, 0, none⟩ = some (.int .i64 0) := (blk_cell hX 0).trans rfl
              have hfx := blk_frozen hX 0
              have hX2 := Aside0.mk (blk_set hX 0 (.int .i64 x))
              have hV2 := Aside0.mk (Kd.S_far hV (p := ⟨gx, 0, none⟩) (fun k hk => Nat.ne_of_lt hk) (.int .i64 x))
              have hQ2 := Aside0.mk (hQ.far x1 x2 (fun k hk => Nat.ne_of_lt hk) 0 (.int .i64 x))
              have hR2 := Aside0.mk (hr.other x3 XG.out 0 (.int .i64 x))
              clear hX hV hQ hr hk hrel
              go_upto_region 20 with (fail)
              clear hcx hfx
              generalize Y0.setCell ⟨gx, 0, none⟩ (.int .i64 x) = X1 at *
              have HX1 : Aside0 (X1.heap[gx]? = some (.cells #[.int .i64 x, .int .i64 0, .int .i64 0, .slice none 0 0] 54 (0, 0))) := ⟨hX2.out⟩
              have HV1 := hV2
              have HR1 := hR2
              have HQ1 := hQ2
              clear hX2 hV2 hR2 hQ2
              go_wp2_with (fail)
              go_at_call 36
              (with_reducible refine (rrnum gr m1 f1 w _ HR1.out).mono ?_)
              rintro e Y1 ⟨hk, y, m2, f2, rfl, hr, hrel⟩
              obtain ⟨Ab, cb, hblk, _, _⟩ := HR1.out.blk
              have hV := Kd.S_mono (Kd.S_keep (Kd.S_types HV1.out hblk (by decide)) hk (fun _ hk => hk.2)) (ok' := fun k => k < gx) (fun _ hk => hk.1)
              have hQ := HQ1.out.keep HR1.out hk
              have hX := hk.blk HX1.out x3 (by simp)
              have HE2 := Aside0.mk hrel
              clear HV1 HR1 HX1 HQ1 hblk
              have hcx : Y1.cell? ⟨gx, 1, none⟩ = some (.int .i64 0) := (blk_cell hX 1).trans rfl
              have hfx := blk_frozen hX 1
              have hX2 := Aside0.mk (blk_set hX 1 (.int .i64 y))
              have hV2 := Aside0.mk (Kd.S_far hV (p := ⟨gx, 1, none⟩) (fun k hk => Nat.ne_of_lt hk) (.int .i64 y))
              have hQ2 := Aside0.mk (hQ.far x1 x2 (fun k hk => Nat.ne_of_lt hk) 1 (.int .i64 y))
              have hR2 := Aside0.mk (hr.other x3 XG.out 1 (.int .i64 y))
              clear hX hV hQ hr hk hrel
              go_upto_region 21 with (fail)
              clear hcx hfx
              generalize Y1.setCell ⟨gx, 1, none⟩ (.int .i64 y) = X2 at *
              have HX2 : Aside0 (X2.heap[gx]? = some (.cells #[.int .i64 x, .int .i64 y, .int .i64 0, .slice none 0 0] 54 (0, 0))) := ⟨hX2.out⟩
              have HV2 := hV2
              have HR2 := hR2
              have HQ2 := hQ2
              clear hX2 hV2 hR2 hQ2
              go_wp2_with (fail)
              go_at_call 36
              (with_reducible refine (rrnum gr m2 f2 w _ HR2.out).mono ?_)
              rintro e Y2 ⟨hk, t, m3, f3, rfl, hr, hrel⟩
              obtain ⟨Ab, cb, hblk, _, _⟩ := HR2.out.blk
              have hV := Kd.S_mono (Kd.S_keep (Kd.S_types HV2.out hblk (by decide)) hk (fun _ hk => hk.2)) (ok' := fun k => k < gx) (fun _ hk => hk.1)
              have hQ := HQ2.out.keep HR2.out hk
              have hX := hk.blk HX2.out x3 (by simp)
              have HE3 := Aside0.mk hrel
              clear HV2 HR2 HX2 HQ2 hblk
              have hcx : Y2.cell? ⟨gx, 2, none⟩ = some (.int .i64 0) := (blk_cell hX 2).trans rfl
              have hfx := blk_frozen hX 2
              have hX2 := Aside0.mk (blk_set hX 2 (.int .i64 t))
              have hV2 := Aside0.mk (Kd.S_far hV (p := ⟨gx, 2, none⟩) (fun k hk => Nat.ne_of_lt hk) (.int .i64 t))
              have hQ2 := Aside0.mk (hQ.far x1 x2 (fun k hk => Nat.ne_of_lt hk) 2 (.int .i64 t))
              have hR2 := Aside0.mk (hr.other x3 XG.out 2 (.int .i64 t))
              clear hX hV hQ hr hk hrel
              go_upto_region 22 with (fail)
              clear hcx hfx
              generalize Y2.setCell ⟨gx, 2, none⟩ (.int .i64 t) = X3 at *
              have HX3 : Aside0 (X3.heap[gx]? = some (.cells #[.int .i64 x, .int .i64 y, .int .i64 t, .slice none 0 0] 54 (0, 0))) := ⟨hX2.out⟩
              have HV3 := hV2
              have HR3 := hR2
              have HQ3 := hQ2
              clear hX2 hV2 hR2 hQ2
              go_wp2_with (fail)
              go_at_call 39
              obtain ⟨b9, hb9⟩ : ∃ b9, b9 = X3.heap.size := ⟨_, rfl⟩
              have HXB := Aside0.mk (show gx < b9 from hb9 ▸ blk_sz HX3.out)
              (with_reducible refine (rrlist gr m3 f3 w _ HR3.out).mono ?_)
              rintro e Y3 ⟨hk, z, m4, f4, vz, rfl, hvz, hr, hrel⟩
              obtain ⟨Ab, cb, hblk, _, _⟩ := HR3.out.blk
              have hV := Kd.S_mono (Kd.S_keep (Kd.S_types HV3.out hblk (by decide)) hk (fun _ hk => hk.2)) (ok' := fun k => k < gx) (fun _ hk => hk.1)
              have hQ := HQ3.out.keep HR3.out hk
              have hX := hk.blk HX3.out x3 (by simp)
              have HE4 := Aside0.mk hrel
              clear HV3 HR3 HX3 HQ3 hblk
              obtain ⟨Az, cz, rfl⟩ := Kd.R_slice hvz
              rw [← hb9] at hvz
              have hcx : Y3.cell? ⟨gx, 3, none⟩ = some (.slice none 0 0) := (blk_cell hX 3).trans rfl
              have hfx := blk_frozen hX 3
              have hvz2 := Aside0.mk (Kd.R_far (Kd.R_bound hvz) (p := ⟨gx, 3, none⟩) (fun k hk => by have := hk.2.1; have := HXB.out; show k ≠ gx; omega) (.slice Az z.length cz))
              clear hvz
              have hX2 := Aside0.mk (blk_set hX 3 (.slice Az z.length cz))
              have hV2 := Aside0.mk (Kd.S_far hV (p := ⟨gx, 3, none⟩) (fun k hk => Nat.ne_of_lt hk) (.slice Az z.length cz))
              have hQ2 := Aside0.mk (hQ.far x1 x2 (fun k hk => Nat.ne_of_lt hk) 3 (.slice Az z.length cz))
              have hR2 := Aside0.mk (hr.other x3 XG.out 3 (.slice Az z.length cz))
              clear hX hV hQ hr hk hrel
              go_upto_region 23 with (fail)
              clear hcx hfx
              generalize Y3.setCell ⟨gx, 3, none⟩ (.slice Az z.length cz) = X4 at *
              have HX4 : Aside0 (X4.heap[gx]? = some (.cells #[.int .i64 x, .int .i64 y, .int .i64 t, .slice Az z.length cz] 54 (0, 0))) := ⟨hX2.out⟩
              have HV4 := hV2
              have HR4 := hR2
              have HQ4 := hQ2
              clear hX2 hV2 hR2 hQ2
              have hc0 : X4.cell? ⟨gx, 0, none⟩ = some (.int .i64 x) := (blk_cell HX4.out 0).trans rfl
              have hc1 : X4.cell? ⟨gx, 1, none⟩ = some (.int .i64 y) := (blk_cell HX4.out 1).trans rfl
              have hc2 : X4.cell? ⟨gx, 2, none⟩ = some (.int .i64 t) := (blk_cell HX4.out 2).trans rfl
              have hc3 : X4.cell? ⟨gx, 3, none⟩ = some (.slice Az z.length cz) := (blk_cell HX4.out 3).trans rfl
              have HUn := Aside0.mk (show Up2 (finA a b c d (p : Int) acc (ac ++ [(⟨x, ⟨y, t, z⟩⟩ : S54)]) (actsP (m - (j + 1)) m4) = unscriptP l0) (unscriptP l0) f4 from by
                rcases act_chain HE1.out HE2.out HE3.out HE4.out with ⟨h1, h2⟩ | ⟨h1, h2⟩
                · exact .inl ⟨h1, (acts_next hlt h2).symm.trans HF.out⟩
                · exact .inr ⟨h1, HF.out.symm.trans (acts_err hlt h2)⟩)
              have HLL := Aside0.mk (show (ac ++ [(⟨x, ⟨y, t, z⟩⟩ : S54)]).length = j + 1 by rw [List.length_append, HL.out]; rfl)
              have HWX := Aside0.mk (show w.heap.size ≤ X4.heap.size ∧ gx < X4.heap.size from ⟨HR4.out.below.size, blk_sz HX4.out⟩)
              have HM := Aside0.mk (k54_mkM X4 w.heap.size (fun k => b9 ≤ k) (⟨x, ⟨y, t, z⟩⟩ : S54) (Kd.R_lower (Kd.R_mono hvz2.out (fun k hk => hk.2.1)) (by have := XG.out; have := HXB.out; omega)))
              have HO := Aside0.mk (fun k hk => (Kd.S_R HV4.out).1 k hk)
              go_wp2_with (first | ((with_reducible refine gate_builtin (b := .append) (xs := #[.tmp 82, .tmp 84]) rfl ?_); at_builtin; refine Kd.S_append k54 (w0 := X4) w.heap.size rfl (.tmp 82) (.tmp 84) 26 54 (.agg #[.int .i64 0, .int .i64 0, .int .i64 0, .slice none 0 0]) 48 rfl Try.underlying26 (by kernel_rfl) rfl (by decide) (by decide) (.slice A3 ac.length c3) ac (⟨x, ⟨y, t, z⟩⟩ : S54) _ (fun _ => True) (fun k => b9 ≤ k) rfl rfl HM.out (fun k hk => ⟨trivial, fun he => by have h1 : k < gx := HO.out k he.symm; have h2 : b9 ≤ k := hk; have := HXB.out; omega⟩) (fun _ _ => trivial) (Kd.S_mono HV4.out (fun k hk => ⟨trivial, by have h3 : k < gx := hk; have := HXB.out; omega⟩)) (Below.refl _ _) HWX.out.1 (by have := HL.out; have := HNm.out; omega) ?_; intro v1 w1 hS1 hb1 hg1 hat1))
              go_roundg g2
              case measure => omega
              case rel =>
                have hbase := fun k hk => Kd.S_base HV4.out k hk
                have hn9 := HNm.out
                obtain ⟨A9, c9, hblk2, _, _⟩ := HR4.out.blk
                exact ⟨j + 1, ac ++ [(⟨x, ⟨y, t, z⟩⟩ : S54)], m4, f4, by omega, by omega, by first | rfl | rw [wrap_succ j (by omega)], HLL, ⟨hS1⟩, ⟨(HQ4.out.over HV4.out hg1).mono (fun _ _ => trivial)⟩, ⟨HR4.out.grown hg1 (fun k hk => ⟨hbase k hk, fun e => Kd.R_ne (Kd.S_R HV4.out) hblk2 (by decide) (e ▸ hk.symm)⟩)⟩, HUn⟩
            · have c1b : e4 = 0 → decide ((j : Int) < (m : Int)) = false := fun h => decide_eq_false (by omega)
              by_cases he4 : e4 = 0
              · subst he4
                have c2b : decide ((j : Int) < (m : Int)) = false := c1b rfl
                have HF := Aside0.mk (show finA a b c d (p : Int) acc ac (actsP 0 l4) = unscriptP l0 from by
                  rcases HU.out with ⟨_, h⟩ | ⟨h, _⟩
                  · rw [show m - j = 0 by omega] at h; exact h
                  · exact absurd rfl h)
                clear HU
                go_wp2_with (fail)
                go_at_call 40
                (with_reducible refine (rrover gr l4 0 w _ HR.out).mono ?_)
                rintro e W9 ⟨hk, e9, rfl, hr, hrel⟩
                obtain ⟨Ab, cb, hblk, _, _⟩ := HR.out.blk
                have HV9 := Aside0.mk (Kd.S_mono (Kd.S_keep (Kd.S_types HV.out hblk (by decide)) hk (fun _ hk => hk.2)) (ok' := fun _ => True) (fun _ _ => trivial))
                have HQ9 := Aside0.mk (HQ.out.keep HR.out hk)
                rcases hrel with ⟨_, ⟨hl, h9⟩ | ⟨hl, h9⟩⟩ | ⟨h0, _⟩
                · subst h9
                  obtain ⟨q1, q2⟩ := outp_ok H.out (HF.out.symm.trans (show finA a b c d (p : Int) acc ac (actsP 0 l4) = .ok ⟨a, b, c, d, (p : Int), acc, ac⟩ by rw [hl]; simp [actsP, finA]))
                  have HQ1 := Aside0.mk q1
                  have HQ2 := Aside0.mk q2
                  obtain ⟨A5, c5, e5⟩ := Kd.R_slice (Kd.S_R HQ9.out.S)
                  subst e5
                  have hfin := HQ9.out.fin HV9.out hr.below
                  have HFI := Aside0.mk hfin
                  have hca0 : W9.cell? ⟨gc, 0, none⟩ = some (.int .i64 a) := (blk_cell HQ9.out.bc 0).trans rfl
                  have hcb0 : W9.cell? ⟨gq, 0, none⟩ = some (.int .i64 0) := (blk_cell HQ9.out.bq 0).trans rfl
                  have hcf0 := blk_frozen HQ9.out.bq 0
                  have hca1 : W9.cell? ⟨gc, 1, none⟩ = some (.int .i64 b) := (blk_cell HQ9.out.bc 1).trans rfl
                  have hcb1 : W9.cell? ⟨gq, 1, none⟩ = some (.int .i64 0) := (blk_cell HQ9.out.bq 1).trans rfl
                  have hcf1 := blk_frozen HQ9.out.bq 1
                  have hca2 : W9.cell? ⟨gc, 2, none⟩ = some (.int .i64 c) := (blk_cell HQ9.out.bc 2).trans rfl
                  have hcb2 : W9.cell? ⟨gq, 2, none⟩ = some (.int .i64 0) := (blk_cell HQ9.out.bq 2).trans rfl
                  have hcf2 := blk_frozen HQ9.out.bq 2
                  have hca3 : W9.cell? ⟨gc, 3, none⟩ = some (.int .i64 d) := (blk_cell HQ9.out.bc 3).trans rfl
                  have hcb3 : W9.cell? ⟨gq, 3, none⟩ = some (.int .i64 0) := (blk_cell HQ9.out.bq 3).trans rfl
                  have hcf3 := blk_frozen HQ9.out.bq 3
                  have hca4 : W9.cell? ⟨gc, 4, none⟩ = some (.int .u64 (p : Int)) := (blk_cell HQ9.out.bc 4).trans rfl
                  have hcb4 : W9.cell? ⟨gq, 4, none⟩ = some (.int .u64 0) := (blk_cell HQ9.out.bq 4).trans rfl
                  have hcf4 := blk_frozen HQ9.out.bq 4
                  have hca5 : W9.cell? ⟨gc, 5, none⟩ = some (.slice A5 acc.length c5) := (blk_cell HQ9.out.bc 5).trans rfl
                  have hcb5 : W9.cell? ⟨gq, 5, none⟩ = some (.slice none 0 0) := (blk_cell HQ9.out.bq 5).trans rfl
                  have hcf5 := blk_frozen HQ9.out.bq 5
                  clear q1 q2 hr hk hl HF hblk hfin hc1 hf1
                  go_wp2_with (fail)
                  refine bodyPost_ret (uq_res rfl rfl rfl HFI.out.1) rfl ?_
                  obtain ⟨_, hl5, hC5⟩ := Kd.S_reads' HFI.out.2.1
                  obtain ⟨_, hl6, hC6⟩ := Kd.S_reads' HFI.out.2.2.1
                  have q1 := HQ1.out
                  have q2 := HQ2.out
                  subst q1 q2
                  exact ⟨A5, A3, c5, c3, rfl, hC5, hl5, hC6, hl6, HFI.out.2.2.2⟩
                · have HT := Aside0.mk (show unscriptP l0 = .error e9 from HF.out.symm.trans (by rw [h9]; cases l4 with | nil => exact absurd rfl hl | cons c r => rfl))
                  have h9' : e9 ≠ 0 := by rw [h9]; decide
                  clear h9 hl HF hblk hk hc1 hf1
                  obtain ⟨hc9, hf9⟩ := hr.e1
                  have HR9 := Aside0.mk hr
                  clear hr
                  go_upto_region 25 with (fail)
                  refine start_ (n := 8) (S := fun wc => wc.cell? ⟨gr, 1, none⟩ = some (.int .i64 e9)) (ds := []) #[false, false, false, false, false, false, false, false] (by kernel_rfl) rfl rfl ((HR9.out.step (below_drew (Below.refl _ _))).e1.1) (fun hS => ?_)
                  refine pure_ (i := 0) (N := some 89) (v := ?_) (a' := ?_) #[true, false, false, false, false, false, false, false] rfl rfl (by kernel_rfl) (fun _ _ _ h => h) (Or.inl ⟨by rfl, ?_⟩) ?_ ?_
                  rotate_left
                  · intro w'
                    go_simp
                    try (with_reducible rfl)
                  rotate_left
                  · simp only [Act.put, List.setIfInBounds_toArray, List.set_cons_zero, List.set_cons_succ]
                    rfl
                  refine pure_ (i := 1) (N := some 90) (v := ?_) (a' := ?_) #[true, true, false, false, false, false, false, false] rfl rfl (by kernel_rfl) (fun _ _ _ h => h) (Or.inl ⟨by rfl, ?_⟩) ?_ ?_
                  rotate_left
                  · intro w'
                    go_simp
                    try (with_reducible rfl)
                  rotate_left
                  · simp only [Act.put, List.setIfInBounds_toArray, List.set_cons_zero, List.set_cons_succ]
                    rfl
                  refine pure_ (i := 2) (N := some 91) (v := ?_) (a' := ?_) #[true, true, true, false, false, false, false, false] rfl rfl (by kernel_rfl) (fun _ _ _ h => h) (Or.inl ⟨by rfl, ?_⟩) ?_ ?_
                  rotate_left
                  · intro w'
                    go_simp
                    try (with_reducible rfl)
                  rotate_left
                  · simp only [Act.put, List.setIfInBounds_toArray, List.set_cons_zero, List.set_cons_succ]
                    rfl
                  refine pure_ (i := 3) (N := some 92) (v := ?_) (a' := ?_) #[true, true, true, true, false, false, false, false] rfl rfl (by kernel_rfl) (fun _ _ _ h => h) (Or.inl ⟨by rfl, ?_⟩) ?_ ?_
                  rotate_left
                  · intro w'
                    go_simp
                    try (with_reducible rfl)
                  rotate_left
                  · simp only [Act.put, List.setIfInBounds_toArray, List.set_cons_zero, List.set_cons_succ]
                    rfl
                  refine take_ (i := 4) (N := some 93) (v := ?_) (a' := ?_) #[true, true, true, true, true, false, false, false] rfl rfl (by kernel_rfl) (fun _ _ _ h => h) (Or.inl ⟨by rfl, ?_⟩) hS ?_ ?_
                  rotate_left
                  · intro w' hw
                    simp [go_sem, hw]
                    try (with_reducible rfl)
                  rotate_left
                  · simp only [Act.put, List.setIfInBounds_toArray, List.set_cons_zero, List.set_cons_succ]
                    rfl
                  have HQd := Aside0.mk (HQ9.out.below (below_drew (Below.refl W9.heap.size W9)))
                  have HBd := Aside0.mk (HR9.out.step (below_drew (Below.refl W9.heap.size W9))).below
                  obtain ⟨Ad, cd, hbd9, _, _⟩ := (HR9.out.step (below_drew (Below.refl W9.heap.size W9))).blk
                  have hS5 : (W9.drew.setCells gq 0 [.int .i64 0, .int .i64 0, .int .i64 0, .int .i64 0, .int .u64 0, .slice none 0 0]).cell? ⟨gr, 1, none⟩ = some (.int .i64 e9) := (blk_cell ((Ivs.stored_other (g := gq) (j := gr) (fun e => HQd.out.n3 e.symm) [.int .i64 0, .int .i64 0, .int .i64 0, .int .i64 0, .int .u64 0, .slice none 0 0] 0 W9.drew).trans hbd9) 1).trans rfl
                  clear hbd9
                  refine one_ (i := 5) (N := none) #[true, true, true, true, true, true, false, false] rfl rfl (by kernel_rfl) (by simp) (fun K hK => ?_)
                  refine skip_ (w1 := W9.drew.setCells gq 0 [.int .i64 0, .int .i64 0, .int .i64 0, .int .i64 0, .int .u64 0, .slice none 0 0]) (by rfl) rfl (Ivs.exec_store 25 (.tmp 2) (.tmp 89) rfl rfl rfl HQd.out.bq rfl (by kernel_rfl) (by intro q hq; simp only [List.mem_cons, List.not_mem_nil, or_false] at hq; rcases hq with rfl | rfl | rfl | rfl | rfl | rfl <;> rfl)) ?_
                  refine hK.out _ _ hS5 (fun _ => ?_)
                  clear hK K
                  refine pure_ (i := 6) (N := some 3) (v := ?_) (a' := ?_) #[true, true, true, true, true, true, true, false] rfl rfl (by kernel_rfl) (fun _ _ _ h => h) (Or.inl ⟨by rfl, ?_⟩) ?_ ?_
                  rotate_left
                  · intro w'
                    go_simp
                    try (with_reducible rfl)
                  rotate_left
                  · simp only [Act.put, List.setIfInBounds_toArray, List.set_cons_zero, List.set_cons_succ]
                    rfl
                  refine pure_ (i := 7) (N := some 4) (v := ?_) (a' := ?_) #[true, true, true, true, true, true, true, true] rfl rfl (by kernel_rfl) (fun _ _ _ h => h) (Or.inl ⟨by rfl, ?_⟩) ?_ ?_
                  rotate_left
                  · intro w'
                    go_simp
                    try (with_reducible rfl)
                  rotate_left
                  · simp only [Act.put, List.setIfInBounds_toArray, List.set_cons_zero, List.set_cons_succ]
                    rfl
                  refine done_ (by kernel_rfl) ?_
                  have hst := Ivs.stored (new := #[.int .i64 0, .int .i64 0, .int .i64 0, .int .i64 0, .int .u64 0, .slice none 0 0]) HQd.out.bq rfl
                  have hbd := Ivs.below_stored (g := gq) [.int .i64 0, .int .i64 0, .int .i64 0, .int .i64 0, .int .u64 0, .slice none 0 0] 0 _ HBd.out HQd.out.g1
                  have HST := Aside0.mk hst
                  have HBS := Aside0.mk hbd
                  clear hst hbd hS hc9 hf9
                  go_wp2_with (fail)
                  refine bodyPost_ret (uq_res rfl rfl rfl HST.out) rfl ?_
                  obtain ⟨rfl, rfl⟩ := outp_err H.out HT.out
                  exact ⟨none, none, 0, 0, rfl, ⟨rfl, Nat.zero_le _, fun h => absurd h (Nat.lt_irrefl 0)⟩, Nat.le_refl _, ⟨rfl, Nat.zero_le _, fun h => absurd h (Nat.lt_irrefl 0)⟩, Nat.le_refl _, HBS.out⟩
                · exact absurd rfl h0
              · have HT0 := Aside0.mk (show unscriptP l0 = .error e4 from by
                  rcases HU.out with ⟨h, _⟩ | ⟨_, h⟩
                  · exact absurd h he4
                  · exact h)
                clear HU
                by_cases hlt2 : j < m
                · have c2b : decide ((j : Int) < (m : Int)) = true := decide_eq_true (by omega)
                  go_wp2_with (fail)
                  go_at_call 40
                  (with_reducible refine (rrover gr l4 e4 w _ HR.out).mono ?_)
                  rintro e W9 ⟨hk, e9, rfl, hr, ⟨h0, _⟩ | ⟨_, h9⟩⟩
                  · exact absurd h0 he4
                  have HT := Aside0.mk (show unscriptP l0 = .error e9 by rw [h9]; exact HT0.out)
                  have h9' : e9 ≠ 0 := by rw [h9]; exact he4
                  have HQ9 := Aside0.mk (HQ.out.keep HR.out hk)
                  clear h9 hk hc1 hf1
                  obtain ⟨hc9, hf9⟩ := hr.e1
                  have HR9 := Aside0.mk hr
                  clear hr
                  go_upto_region 25 with (fail)
                  refine start_ (n := 8) (S := fun wc => wc.cell? ⟨gr, 1, none⟩ = some (.int .i64 e9)) (ds := []) #[false, false, false, false, false, false, false, false] (by kernel_rfl) rfl rfl ((HR9.out.step (below_drew (Below.refl _ _))).e1.1) (fun hS => ?_)
                  refine pure_ (i := 0) (N := some 89) (v := ?_) (a' := ?_) #[true, false, false, false, false, false, false, false] rfl rfl (by kernel_rfl) (fun _ _ _ h => h) (Or.inl ⟨by rfl, ?_⟩) ?_ ?_
                  rotate_left
                  · intro w'
                    go_simp
                    try (with_reducible rfl)
                  rotate_left
                  · simp only [Act.put, List.setIfInBounds_toArray, List.set_cons_zero, List.set_cons_succ]
                    rfl
                  refine pure_ (i := 1) (N := some 90) (v := ?_) (a' := ?_) #[true, true, false, false, false, false, false, false] rfl rfl (by kernel_rfl) (fun _ _ _ h => h) (Or.inl ⟨by rfl, ?_⟩) ?_ ?_
                  rotate_left
                  · intro w'
                    go_simp
                    try (with_reducible rfl)
                  rotate_left
                  · simp only [Act.put, List.setIfInBounds_toArray, List.set_cons_zero, List.set_cons_succ]
                    rfl
                  refine pure_ (i := 2) (N := some 91) (v := ?_) (a' := ?_) #[true, true, true, false, false, false, false, false] rfl rfl (by kernel_rfl) (fun _ _ _ h => h) (Or.inl ⟨by rfl, ?_⟩) ?_ ?_
                  rotate_left
                  · intro w'
                    go_simp
                    try (with_reducible rfl)
                  rotate_left
                  · simp only [Act.put, List.setIfInBounds_toArray, List.set_cons_zero, List.set_cons_succ]
                    rfl
                  refine pure_ (i := 3) (N := some 92) (v := ?_) (a' := ?_) #[true, true, true, true, false, false, false, false] rfl rfl (by kernel_rfl) (fun _ _ _ h => h) (Or.inl ⟨by rfl, ?_⟩) ?_ ?_
                  rotate_left
                  · intro w'
                    go_simp
                    try (with_reducible rfl)
                  rotate_left
                  · simp only [Act.put, List.setIfInBounds_toArray, List.set_cons_zero, List.set_cons_succ]
                    rfl
                  refine take_ (i := 4) (N := some 93) (v := ?_) (a' := ?_) #[true, true, true, true, true, false, false, false] rfl rfl (by kernel_rfl) (fun _ _ _ h => h) (Or.inl ⟨by rfl, ?_⟩) hS ?_ ?_
                  rotate_left
                  · intro w' hw
                    simp [go_sem, hw]
                    try (with_reducible rfl)
                  rotate_left
                  · simp only [Act.put, List.setIfInBounds_toArray, List.set_cons_zero, List.set_cons_succ]
                    rfl
                  have HQd := Aside0.mk (HQ9.out.below (below_drew (Below.refl W9.heap.size W9)))
                  have HBd := Aside0.mk (HR9.out.step (below_drew (Below.refl W9.heap.size W9))).below
                  obtain ⟨Ad, cd, hbd9, _, _⟩ := (HR9.out.step (below_drew (Below.refl W9.heap.size W9))).blk
                  have hS5 : (W9.drew.setCells gq 0 [.int .i64 0, .int .i64 0, .int .i64 0, .int .i64 0, .int .u64 0, .slice none 0 0]).cell? ⟨gr, 1, none⟩ = some (.int .i64 e9) := (blk_cell ((Ivs.stored_other (g := gq) (j := gr) (fun e => HQd.out.n3 e.symm) [.int .i64 0, .int .i64 0, .int .i64 0, .int .i64 0, .int .u64 0, .slice none 0 0] 0 W9.drew).trans hbd9) 1).trans rfl
                  clear hbd9
                  refine one_ (i := 5) (N := none) #[true, true, true, true, true, true, false, false] rfl rfl (by kernel_rfl) (by simp) (fun K hK => ?_)
                  refine skip_ (w1 := W9.drew.setCells gq 0 [.int .i64 0, .int .i64 0, .int .i64 0, .int .i64 0, .int .u64 0, .slice none 0 0]) (by rfl) rfl (Ivs.exec_store 25 (.tmp 2) (.tmp 89) rfl rfl rfl HQd.out.bq rfl (by kernel_rfl) (by intro q hq; simp only [List.mem_cons, List.not_mem_nil, or_false] at hq; rcases hq with rfl | rfl | rfl | rfl | rfl | rfl <;> rfl)) ?_
                  refine hK.out _ _ hS5 (fun _ => ?_)
                  clear hK K
                  refine pure_ (i := 6) (N := some 3) (v := ?_) (a' := ?_) #[true, true, true, true, true, true, true, false] rfl rfl (by kernel_rfl) (fun _ _ _ h => h) (Or.inl ⟨by rfl, ?_⟩) ?_ ?_
                  rotate_left
                  · intro w'
                    go_simp
                    try (with_reducible rfl)
                  rotate_left
                  · simp only [Act.put, List.setIfInBounds_toArray, List.set_cons_zero, List.set_cons_succ]
                    rfl
                  refine pure_ (i := 7) (N := some 4) (v := ?_) (a' := ?_) #[true, true, true, true, true, true, true, true] rfl rfl (by kernel_rfl) (fun _ _ _ h => h) (Or.inl ⟨by rfl, ?_⟩) ?_ ?_
                  rotate_left
                  · intro w'
                    go_simp
                    try (with_reducible rfl)
                  rotate_left
                  · simp only [Act.put, List.setIfInBounds_toArray, List.set_cons_zero, List.set_cons_succ]
                    rfl
                  refine done_ (by kernel_rfl) ?_
                  have hst := Ivs.stored (new := #[.int .i64 0, .int .i64 0, .int .i64 0, .int .i64 0, .int .u64 0, .slice none 0 0]) HQd.out.bq rfl
                  have hbd := Ivs.below_stored (g := gq) [.int .i64 0, .int .i64 0, .int .i64 0, .int .i64 0, .int .u64 0, .slice none 0 0] 0 _ HBd.out HQd.out.g1
                  have HST := Aside0.mk hst
                  have HBS := Aside0.mk hbd
                  clear hst hbd hS hc9 hf9
                  go_wp2_with (fail)
                  refine bodyPost_ret (uq_res rfl rfl rfl HST.out) rfl ?_
                  obtain ⟨rfl, rfl⟩ := outp_err H.out HT.out
                  exact ⟨none, none, 0, 0, rfl, ⟨rfl, Nat.zero_le _, fun h => absurd h (Nat.lt_irrefl 0)⟩, Nat.le_refl _, ⟨rfl, Nat.zero_le _, fun h => absurd h (Nat.lt_irrefl 0)⟩, Nat.le_refl _, HBS.out⟩
                
                · have c2b : decide ((j : Int) < (m : Int)) = false := decide_eq_false (by omega)
                  go_wp2_with (fail)
                  go_at_call 40
                  (with_reducible refine (rrover gr l4 e4 w _ HR.out).mono ?_)
                  rintro e W9 ⟨hk, e9, rfl, hr, ⟨h0, _⟩ | ⟨_, h9⟩⟩
                  · exact absurd h0 he4
                  have HT := Aside0.mk (show unscriptP l0 = .error e9 by rw [h9]; exact HT0.out)
                  have h9' : e9 ≠ 0 := by rw [h9]; exact he4
                  have HQ9 := Aside0.mk (HQ.out.keep HR.out hk)
                  clear h9 hk hc1 hf1
                  obtain ⟨hc9, hf9⟩ := hr.e1
                  have HR9 := Aside0.mk hr
                  clear hr
                  go_upto_region 25 with (fail)
                  refine start_ (n := 8) (S := fun wc => wc.cell? ⟨gr, 1, none⟩ = some (.int .i64 e9)) (ds := []) #[false, false, false, false, false, false, false, false] (by kernel_rfl) rfl rfl ((HR9.out.step (below_drew (Below.refl _ _))).e1.1) (fun hS => ?_)
                  refine pure_ (i := 0) (N := some 89) (v := ?_) (a' := ?_) #[true, false, false, false, false, false, false, false] rfl rfl (by kernel_rfl) (fun _ _ _ h => h) (Or.inl ⟨by rfl, ?_⟩) ?_ ?_
                  rotate_left
                  · intro w'
                    go_simp
                    try (with_reducible rfl)
                  rotate_left
                  · simp only [Act.put, List.setIfInBounds_toArray, List.set_cons_zero, List.set_cons_succ]
                    rfl
                  refine pure_ (i := 1) (N := some 90) (v := ?_) (a' := ?_) #[true, true, false, false, false, false, false, false] rfl rfl (by kernel_rfl) (fun _ _ _ h => h) (Or.inl ⟨by rfl, ?_⟩) ?_ ?_
                  rotate_left
                  · intro w'
                    go_simp
                    try (with_reducible rfl)
                  rotate_left
                  · simp only [Act.put, List.setIfInBounds_toArray, List.set_cons_zero, List.set_cons_succ]
                    rfl
                  refine pure_ (i := 2) (N := some 91) (v := ?_) (a' := ?_) #[true, true, true, false, false, false, false, false] rfl rfl (by kernel_rfl) (fun _ _ _ h => h) (Or.inl ⟨by rfl, ?_⟩) ?_ ?_
                  rotate_left
                  · intro w'
                    go_simp
                    try (with_reducible rfl)
                  rotate_left
                  · simp only [Act.put, List.setIfInBounds_toArray, List.set_cons_zero, List.set_cons_succ]
                    rfl
                  refine pure_ (i := 3) (N := some 92) (v := ?_) (a' := ?_) #[true, true, true, true, false, false, false, false] rfl rfl (by kernel_rfl) (fun _ _ _ h => h) (Or.inl ⟨by rfl, ?_⟩) ?_ ?_
                  rotate_left
                  · intro w'
                    go_simp
                    try (with_reducible rfl)
                  rotate_left
                  · simp only [Act.put, List.setIfInBounds_toArray, List.set_cons_zero, List.set_cons_succ]
                    rfl
                  refine take_ (i := 4) (N := some 93) (v := ?_) (a' := ?_) #[true, true, true, true, true, false, false, false] rfl rfl (by kernel_rfl) (fun _ _ _ h => h) (Or.inl ⟨by rfl, ?_⟩) hS ?_ ?_
                  rotate_left
                  · intro w' hw
                    simp [go_sem, hw]
                    try (with_reducible rfl)
                  rotate_left
                  · simp only [Act.put, List.setIfInBounds_toArray, List.set_cons_zero, List.set_cons_succ]
                    rfl
                  have HQd := Aside0.mk (HQ9.out.below (below_drew (Below.refl W9.heap.size W9)))
                  have HBd := Aside0.mk (HR9.out.step (below_drew (Below.refl W9.heap.size W9))).below
                  obtain ⟨Ad, cd, hbd9, _, _⟩ := (HR9.out.step (below_drew (Below.refl W9.heap.size W9))).blk
                  have hS5 : (W9.drew.setCells gq 0 [.int .i64 0, .int .i64 0, .int .i64 0, .int .i64 0, .int .u64 0, .slice none 0 0]).cell? ⟨gr, 1, none⟩ = some (.int .i64 e9) := (blk_cell ((Ivs.stored_other (g := gq) (j := gr) (fun e => HQd.out.n3 e.symm) [.int .i64 0, .int .i64 0, .int .i64 0, .int .i64 0, .int .u64 0, .slice none 0 0] 0 W9.drew).trans hbd9) 1).trans rfl
                  clear hbd9
                  refine one_ (i := 5) (N := none) #[true, true, true, true, true, true, false, false] rfl rfl (by kernel_rfl) (by simp) (fun K hK => ?_)
                  refine skip_ (w1 := W9.drew.setCells gq 0 [.int .i64 0, .int .i64 0, .int .i64 0, .int .i64 0, .int .u64 0, .slice none 0 0]) (by rfl) rfl (Ivs.exec_store 25 (.tmp 2) (.tmp 89) rfl rfl rfl HQd.out.bq rfl (by kernel_rfl) (by intro q hq; simp only [List.mem_cons, List.not_mem_nil, or_false] at hq; rcases hq with rfl | rfl | rfl | rfl | rfl | rfl <;> rfl)) ?_
                  refine hK.out _ _ hS5 (fun _ => ?_)
                  clear hK K
                  refine pure_ (i := 6) (N := some 3) (v := ?_) (a' := ?_) #[true, true, true, true, true, true, true, false] rfl rfl (by kernel_rfl) (fun _ _ _ h => h) (Or.inl ⟨by rfl, ?_⟩) ?_ ?_
                  rotate_left
                  · intro w'
                    go_simp
                    try (with_reducible rfl)
                  rotate_left
                  · simp only [Act.put, List.setIfInBounds_toArray, List.set_cons_zero, List.set_cons_succ]
                    rfl
                  refine pure_ (i := 7) (N := some 4) (v := ?_) (a' := ?_) #[true, true, true, true, true, true, true, true] rfl rfl (by kernel_rfl) (fun _ _ _ h => h) (Or.inl ⟨by rfl, ?_⟩) ?_ ?_
                  rotate_left
                  · intro w'
                    go_simp
                    try (with_reducible rfl)
                  rotate_left
                  · simp only [Act.put, List.setIfInBounds_toArray, List.set_cons_zero, List.set_cons_succ]
                    rfl
                  refine done_ (by kernel_rfl) ?_
                  have hst := Ivs.stored (new := #[.int .i64 0, .int .i64 0, .int .i64 0, .int .i64 0, .int .u64 0, .slice none 0 0]) HQd.out.bq rfl
                  have hbd := Ivs.below_stored (g := gq) [.int .i64 0, .int .i64 0, .int .i64 0, .int .i64 0, .int .u64 0, .slice none 0 0] 0 _ HBd.out HQd.out.g1
                  have HST := Aside0.mk hst
                  have HBS := Aside0.mk hbd
                  clear hst hbd hS hc9 hf9
                  go_wp2_with (fail)
                  refine bodyPost_ret (uq_res rfl rfl rfl HST.out) rfl ?_
                  obtain ⟨rfl, rfl⟩ := outp_err H.out HT.out
                  exact ⟨none, none, 0, 0, rfl, ⟨rfl, Nat.zero_le _, fun h => absurd h (Nat.lt_irrefl 0)⟩, Nat.le_refl _, ⟨rfl, Nat.zero_le _, fun h => absurd h (Nat.lt_irrefl 0)⟩, Nat.le_refl _, HBS.out⟩
end Go.Proofs.Ytoobhpgkecplmaa.QPackReads
