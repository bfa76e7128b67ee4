/- The law SpanMeets answers true where the spans' meetings and joins are what the reference tells. No conditions but those that the theorems name. -/
import Derived.Test.YtbgbhoidchdjmaaQSpanMeetsx5
import Derived.Test.YtbgbhoidchdjmaaQSpanMeetsx3
import Derived.Test.YtbgbhoidchdjmaaIvs
namespace Go.Proofs.Ytbgbhoidchdjmaa.QSpanMeets
open Go Go.RowKit Go.Proofs.YtbgbhoidchdjmaaW.PrintWords Go.Proofs.YtbgbhoidchdjmaaW.PrintLast Go.Proofs.YtbgbhoidchdjmaaW.PrintMore Go.Proofs.Ytbgbhoidchdjmaa.Ivs
attribute [local go_sem] max2_int min2_int max_two min_two max_three min_three max_four min_four
set_option linter.unusedVariables false
set_option linter.unusedSimpArgs false
def BK6 (W : World) (G g7 g8 g9 g10 g11 g12 : Nat) (a n b m x y cx cy : Int) : Prop := W.heap[g7]? = some (.cells #[.int .u32 a, .int .i64 n] 27 (0, 0)) ∧ W.heap[g8]? = some (.cells #[.int .u32 b, .int .i64 m] 27 (0, 0)) ∧
  W.heap[g9]? = some (.cells #[.int .u64 x, .int .i64 n] 31 (0, 0)) ∧ W.heap[g10]? = some (.cells #[.int .u64 y, .int .i64 m] 31 (0, 0)) ∧ W.heap[g11]? = some (.cells #[.int .i64 32, .int .u64 cx, .int .i64 n] 37 (0, 0)) ∧ W.heap[g12]? = some (.cells #[.int .i64 32, .int .u64 cy, .int .i64 m] 37 (0, 0)) ∧
  W.heap[G]? = some (.cells #[.int .u64 x, .int .u64 y] 48 (0, 0))
@[reducible] def S6 (W6 : World) (G g7 g8 g9 g10 g11 g12 : Nat) (a n b m x y cx cy : Int) (w' : World) : Prop := (w'.cell? ⟨g7, 0, none⟩ = some (.int .u32 a) ∧ w'.cell? ⟨g7, 1, none⟩ = some (.int .i64 n) ∧ w'.cell? ⟨g8, 0, none⟩ = some (.int .u32 b) ∧ w'.cell? ⟨g8, 1, none⟩ = some (.int .i64 m) ∧
  w'.cell? ⟨g9, 0, none⟩ = some (.int .u64 x) ∧ w'.cell? ⟨g9, 1, none⟩ = some (.int .i64 n) ∧ w'.cell? ⟨g10, 0, none⟩ = some (.int .u64 y) ∧ w'.cell? ⟨g10, 1, none⟩ = some (.int .i64 m) ∧ w'.cell? ⟨g11, 0, none⟩ = some (.int .i64 32) ∧ w'.cell? ⟨g11, 1, none⟩ = some (.int .u64 cx) ∧ w'.cell? ⟨g11, 2, none⟩ = some (.int .i64 n) ∧
  w'.cell? ⟨g12, 0, none⟩ = some (.int .i64 32) ∧ w'.cell? ⟨g12, 1, none⟩ = some (.int .u64 cy) ∧ w'.cell? ⟨g12, 2, none⟩ = some (.int .i64 m) ∧ w'.cell? ⟨G, 0, none⟩ = some (.int .u64 x) ∧ w'.cell? ⟨G, 1, none⟩ = some (.int .u64 y)) ∧ BK6 W6 G g7 g8 g9 g10 g11 g12 a n b m x y cx cy ∧ Below W6.heap.size W6 w'
@[reducible] def Cs (G g7 g8 g9 g10 g11 g12 : Nat) (a n b m x y cx cy : Int) (w' : World) : Prop := (w'.cell? ⟨g7, 0, none⟩ = some (.int .u32 a) ∧ w'.cell? ⟨g7, 1, none⟩ = some (.int .i64 n) ∧ w'.cell? ⟨g8, 0, none⟩ = some (.int .u32 b) ∧ w'.cell? ⟨g8, 1, none⟩ = some (.int .i64 m) ∧
  w'.cell? ⟨g9, 0, none⟩ = some (.int .u64 x) ∧ w'.cell? ⟨g9, 1, none⟩ = some (.int .i64 n) ∧ w'.cell? ⟨g10, 0, none⟩ = some (.int .u64 y) ∧ w'.cell? ⟨g10, 1, none⟩ = some (.int .i64 m) ∧ w'.cell? ⟨g11, 0, none⟩ = some (.int .i64 32) ∧ w'.cell? ⟨g11, 1, none⟩ = some (.int .u64 cx) ∧ w'.cell? ⟨g11, 2, none⟩ = some (.int .i64 n) ∧
  w'.cell? ⟨g12, 0, none⟩ = some (.int .i64 32) ∧ w'.cell? ⟨g12, 1, none⟩ = some (.int .u64 cy) ∧ w'.cell? ⟨g12, 2, none⟩ = some (.int .i64 m) ∧ w'.cell? ⟨G, 0, none⟩ = some (.int .u64 x) ∧ w'.cell? ⟨G, 1, none⟩ = some (.int .u64 y))
theorem S6.mk' {W6 w' : World} {G g7 g8 g9 g10 g11 g12 : Nat} {a n b m x y cx cy : Int} (h : BK6 W6 G g7 g8 g9 g10 g11 g12 a n b m x y cx cy) (hb : Below W6.heap.size W6 w') : S6 W6 G g7 g8 g9 g10 g11 g12 a n b m x y cx cy w' := by
  have hh := h
  obtain ⟨h1, h2, h3, h4, h5, h6, h7⟩ := h
  exact ⟨⟨(blk_cell (blk_kept h1 hb) 0).trans rfl, (blk_cell (blk_kept h1 hb) 1).trans rfl, (blk_cell (blk_kept h2 hb) 0).trans rfl, (blk_cell (blk_kept h2 hb) 1).trans rfl, (blk_cell (blk_kept h3 hb) 0).trans rfl, (blk_cell (blk_kept h3 hb) 1).trans rfl,
    (blk_cell (blk_kept h4 hb) 0).trans rfl, (blk_cell (blk_kept h4 hb) 1).trans rfl, (blk_cell (blk_kept h5 hb) 0).trans rfl, (blk_cell (blk_kept h5 hb) 1).trans rfl, (blk_cell (blk_kept h5 hb) 2).trans rfl,
    (blk_cell (blk_kept h6 hb) 0).trans rfl, (blk_cell (blk_kept h6 hb) 1).trans rfl, (blk_cell (blk_kept h6 hb) 2).trans rfl, (blk_cell (blk_kept h7 hb) 0).trans rfl, (blk_cell (blk_kept h7 hb) 1).trans rfl⟩, hh, hb⟩
@[reducible] def S9 (W6 W9 : World) (G g7 g8 g9 g10 g11 g12 : Nat) (a n b m x y cx cy : Int) (g13 : Nat) (j1 j2 : Int) (w' : World) : Prop := Cs G g7 g8 g9 g10 g11 g12 a n b m x y cx cy w' ∧ (BK6 W6 G g7 g8 g9 g10 g11 g12 a n b m x y cx cy ∧ Below W6.heap.size W6 W9 ∧ W9.heap[g13]? = some (.cells #[.int .u32 j1, .int .i64 j2] 27 (0, 0)) ∧ Below W9.heap.size W9 w')
theorem S9.mk' {W6 W9 w' : World} {G g7 g8 g9 g10 g11 g12 : Nat} {a n b m x y cx cy : Int} {g13 : Nat} {j1 j2 : Int} (h : BK6 W6 G g7 g8 g9 g10 g11 g12 a n b m x y cx cy) (hb : Below W6.heap.size W6 W9) (hn : W9.heap[g13]? = some (.cells #[.int .u32 j1, .int .i64 j2] 27 (0, 0))) (hb2 : Below W9.heap.size W9 w') : S9 W6 W9 G g7 g8 g9 g10 g11 g12 a n b m x y cx cy g13 j1 j2 w' :=
  ⟨(S6.mk' h (hb.trans (hb2.mono hb.size))).1, h, hb, hn, hb2⟩
theorem S9.next {W6 W9 w1 w2 : World} {G g7 g8 g9 g10 g11 g12 : Nat} {a n b m x y cx cy : Int} {g13 : Nat} {j1 j2 : Int} (hb : Below w1.heap.size w1 w2) (h : S9 W6 W9 G g7 g8 g9 g10 g11 g12 a n b m x y cx cy g13 j1 j2 w1) : S9 W6 W9 G g7 g8 g9 g10 g11 g12 a n b m x y cx cy g13 j1 j2 w2 :=
  S9.mk' h.2.1 h.2.2.1 h.2.2.2.1 (h.2.2.2.2.trans (hb.mono h.2.2.2.2.size))
theorem S6.bel {W6 w' : World} {G g7 g8 g9 g10 g11 g12 : Nat} {a n b m x y cx cy : Int} (h : S6 W6 G g7 g8 g9 g10 g11 g12 a n b m x y cx cy w') : Below W6.heap.size W6 w' := h.2.2
theorem S6.next {W6 w1 w2 : World} {G g7 g8 g9 g10 g11 g12 : Nat} {a n b m x y cx cy : Int} (hb : Below w1.heap.size w1 w2) (h : S6 W6 G g7 g8 g9 g10 g11 g12 a n b m x y cx cy w1) : S6 W6 G g7 g8 g9 g10 g11 g12 a n b m x y cx cy w2 := S6.mk' h.2.1 (h.2.2.trans (hb.mono h.2.2.size))
@[reducible] def SW (W0 : World) (G : Nat) (x y : Int) (w' : World) : Prop := w'.cell? ⟨G, 0, none⟩ = some (.int .u64 x) ∧ w'.cell? ⟨G, 1, none⟩ = some (.int .u64 y) ∧ Below W0.heap.size W0 w'
theorem SW.mk' {W0 w' : World} {G : Nat} {x y : Int} (h : W0.heap[G]? = some (.cells #[.int .u64 x, .int .u64 y] 48 (0, 0))) (hb : Below W0.heap.size W0 w') : SW W0 G x y w' :=
  ⟨(blk_cell (blk_kept h hb) 0).trans rfl, (blk_cell (blk_kept h hb) 1).trans rfl, hb⟩
theorem one27 (x y : Int) : ∀ q ∈ (#[Value.int .u32 x, .int .i64 y] : Array Value).toList, q.oneCell' = true := by simp [Value.oneCell']
theorem one31 (x y : Int) : ∀ q ∈ (#[Value.int .u64 x, .int .i64 y] : Array Value).toList, q.oneCell' = true := by simp [Value.oneCell']
theorem one37 (x y z : Int) : ∀ q ∈ (#[Value.int .i64 x, .int .u64 y, .int .i64 z] : Array Value).toList, q.oneCell' = true := by simp [Value.oneCell']
theorem siz27 : (Try.prog.info? 27).map (·.size) = some 2 := by kernel_rfl
theorem siz31 : (Try.prog.info? 31).map (·.size) = some 2 := by kernel_rfl
theorem siz37 : (Try.prog.info? 37).map (·.size) = some 3 := by kernel_rfl
def C27 (x y : Int) : Array Value := #[.int .u32 x, .int .i64 y]
def C31 (x y : Int) : Array Value := #[.int .u64 x, .int .i64 y]
def C37 (x y z : Int) : Array Value := #[.int .i64 x, .int .u64 y, .int .i64 z]
set_option maxRecDepth 100000 in
set_option maxHeartbeats 8000000 in
theorem meets_walk (k : Nat) (n m x y a b cx cy j1 j2 pp : Int) (mb md jb : Bool) (w : World) (hn0 : 0 ≤ n) (hn1 : n ≤ 60) (hm0 : 0 ≤ m) (hm1 : m ≤ 60)
    (A1 : Aside0 (sakialaw03_small.f x n = some (a, n))) (A2 : Aside0 (sakialaw03_small.f y m = some (b, m))) (A3 : Aside0 (sakialaw03_great.f x n = some (x, n))) (A4 : Aside0 (sakialaw03_great.f y m = some (y, m)))
    (A5 : Aside0 (sakiaref01_Cut.f 32 x = some cx)) (A6 : Aside0 (sakiaref01_Cut.f 32 y = some cy))
    (B1 : Aside0 (span_Span_uint32_Meets.f k a n b m = some mb)) (B2 : Aside0 (sakiaref03_Meets.f k 32 cx n 32 cy m = some mb)) (B3 : Aside0 (span_Span_uint32_Meets.f k b m a n = some mb))
    (B4 : Aside0 (span_Span_uint64_Meets.f k x n y m = some md)) (B5 : Aside0 (sakiaref03_Meets.f k 64 x n 64 y m = some md))
    (D1 : Aside0 (span_Span_uint32_Join.f a n b m = some (j1, j2, jb))) (D2 : Aside0 (sakiaref01_Plus.f 32 x n = some pp)) (D3 : Aside0 ((pp == cy) = jb)) (D4 : Aside0 (if jb = true then j1 = a ∧ j2 = n + m else j1 = 0 ∧ j2 = 0))
    (L : Aside0 (sakialaw03_live.f = some true)) :
    Calls Try.prog 5 #[.int .i64 n, .int .i64 m, .agg #[.int .u64 x, .int .u64 y]] w fun e w' => e = .returned (.bool true) ∧ Below w.heap.size w w' := by
  have c1 : decide (n < 0) = false := decide_eq_false (by omega)
  have c2 : decide (m < 0) = false := decide_eq_false (by omega)
  have c3 : decide (60 < n) = false := decide_eq_false (by omega)
  have c4 : decide (60 < m) = false := decide_eq_false (by omega)
  have hG0 := blk_new w (.cells #[.int .u64 x, .int .u64 y] 48)
  have hb0 : Below w.heap.size w (w.alloc (.cells #[.int .u64 x, .int .u64 y] 48)) := (Below.refl _ w).alloc (Nat.le_refl _) _
  go_enter Try.func5, Try.ntmps5
  go_wp2
  generalize w.alloc (.cells #[.int .u64 x, .int .u64 y] 48) = W3 at hG0 hb0 ⊢
  generalize hGe : w.heap.size = G at hG0 hb0 ⊢
  have hG3 := hG0
  refine start_ (n := 12) (S := SW W3 G x y) (ds := []) #[false, false, false, false, false, false, false, false, false, false, false, false] (by kernel_rfl) rfl rfl (SW.mk' hG3 (below_drew1 (Below.refl _ _))) (fun hS => ?_)
  refine pure_ (i := 0) (N := some 30) (v := ?_) (a' := ?_) #[true, false, false, false, false, false, false, false, false, false, false, false] rfl rfl (by kernel_rfl) (fun _ _ _ h => h) (Or.inl ⟨by rfl, ?_⟩) ?_ ?_
  rotate_left
  · intro w'
    go_simp
    try (with_reducible rfl)
  rotate_left
  · simp only [Act.put, List.setIfInBounds_toArray, List.set_cons_zero, List.set_cons_succ]
    rfl
  refine pure_ (i := 2) (N := some 32) (v := ?_) (a' := ?_) #[true, false, true, false, false, false, false, false, false, false, false, false] rfl rfl (by kernel_rfl) (fun _ _ _ h => h) (Or.inl ⟨by rfl, ?_⟩) ?_ ?_
  rotate_left
  · intro w'
    go_simp
    try (with_reducible rfl)
  rotate_left
  · simp only [Act.put, List.setIfInBounds_toArray, List.set_cons_zero, List.set_cons_succ]
    rfl
  refine take_ (i := 1) (N := some 31) (v := ?_) (a' := ?_) #[true, true, true, false, false, false, false, false, false, false, false, false] rfl rfl (by kernel_rfl) (fun _ _ _ h => h) (Or.inl ⟨by rfl, ?_⟩) hS ?_ ?_
  rotate_left
  · rintro w' ⟨s0, s1, s2⟩
    go_simp
    try (with_reducible rfl)
  rotate_left
  · simp only [Act.put, List.setIfInBounds_toArray, List.set_cons_zero, List.set_cons_succ]
    rfl
  refine pure_ (i := 4) (N := some 34) (v := ?_) (a' := ?_) #[true, true, true, false, true, false, false, false, false, false, false, false] rfl rfl (by kernel_rfl) (fun _ _ _ h => h) (Or.inl ⟨by rfl, ?_⟩) ?_ ?_
  rotate_left
  · intro w'
    go_simp
    try (with_reducible rfl)
  rotate_left
  · simp only [Act.put, List.setIfInBounds_toArray, List.set_cons_zero, List.set_cons_succ]
    rfl
  refine pure_ (i := 6) (N := some 36) (v := ?_) (a' := ?_) #[true, true, true, false, true, false, true, false, false, false, false, false] rfl rfl (by kernel_rfl) (fun _ _ _ h => h) (Or.inl ⟨by rfl, ?_⟩) ?_ ?_
  rotate_left
  · intro w'
    go_simp
    try (with_reducible rfl)
  rotate_left
  · simp only [Act.put, List.setIfInBounds_toArray, List.set_cons_zero, List.set_cons_succ]
    rfl
  refine take_ (i := 5) (N := some 35) (v := ?_) (a' := ?_) #[true, true, true, false, true, true, true, false, false, false, false, false] rfl rfl (by kernel_rfl) (fun _ _ _ h => h) (Or.inl ⟨by rfl, ?_⟩) hS ?_ ?_
  rotate_left
  · rintro w' ⟨s0, s1, s2⟩
    go_simp
    try (with_reducible rfl)
  rotate_left
  · simp only [Act.put, List.setIfInBounds_toArray, List.set_cons_zero, List.set_cons_succ]
    rfl
  refine at_act fun A0 hA0 => ?_
  refine inv_ (F2 33 37 7 8 3 7 8 9 10 11 27 (.agg (C27 a n)) (.agg (C27 b m)) (C27 0 0) (C27 a n) (C27 b m) W3 A0) [3, 7, 8, 9, 10, 11] rfl (by kernel_rfl) (by kernel_rfl) (fun d ac w' h => SW.mk' hG3 h.below) ?_ ?_ ?_
  · exact F2.start (by rw [hA0]; rfl) rfl rfl rfl rfl rfl rfl hS.2.2
  · refine Steps.cons (StepOk.mk rfl ?_) ?_
    · intro d ac w' hd hw hF K hK
      have hF0 := hF
      obtain ⟨x1, x2, y1, y2, g1, g2, rfl, hr⟩ := hF
      clear hr
      refine goes_ Try.func8 (by kernel_rfl) rfl #[.int .u64 x, .int .i64 n] (by rfl) rfl rfl (by subst hA0; simp only [Fr, Act.put, List.setIfInBounds_toArray, List.set_cons_zero, List.set_cons_succ, List.map_toArray, List.map_cons, List.map_nil]; rfl) ?_
      refine (sakialaw03_small.calls x n a n _ A1.out).mono ?_
      rintro e w2 ⟨rfl, hb⟩
      refine ⟨_, rfl, hK _ _ ?_⟩
      exact F2.val1 (⟨by decide, by decide, by decide, by decide, by decide, by decide⟩ : Dis 33 37 7 8) (⟨by decide⟩ : Six 3 7 8 9 10 11) hF0 hb
    refine Steps.cons (StepOk.mk rfl ?_) ?_
    · intro d ac w' hd hw hF K hK
      have hF0 := hF
      obtain ⟨x1, x2, y1, y2, g1, g2, rfl, hr⟩ := hF
      clear hr
      refine goes_ Try.func8 (by kernel_rfl) rfl #[.int .u64 y, .int .i64 m] (by rfl) rfl rfl (by subst hA0; simp only [Fr, Act.put, List.setIfInBounds_toArray, List.set_cons_zero, List.set_cons_succ, List.map_toArray, List.map_cons, List.map_nil]; rfl) ?_
      refine (sakialaw03_small.calls y m b m _ A2.out).mono ?_
      rintro e w2 ⟨rfl, hb⟩
      refine ⟨_, rfl, hK _ _ ?_⟩
      exact F2.val2 (⟨by decide, by decide, by decide, by decide, by decide, by decide⟩ : Dis 33 37 7 8) (⟨by decide⟩ : Six 3 7 8 9 10 11) hF0 hb
    refine Steps.cons (StepOk.mk rfl ?_) ?_
    · intro d ac w' hd hw hF K hK
      have hF0 := hF
      obtain ⟨x1, x2, y1, y2, g1, g2, rfl, hr⟩ := hF
      clear hr
      refine value_ (w1 := w'.alloc (.cells (C27 0 0) 27)) (v := .pointer (some ⟨w'.heap.size, 0, none⟩)) (by rfl) rfl (by go_simp; rfl) (hK _ _ ?_)
      exact F2.var1 (⟨by decide, by decide, by decide, by decide, by decide, by decide⟩ : Dis 33 37 7 8) (⟨by decide⟩ : Six 3 7 8 9 10 11) hd hF0
    refine Steps.cons (StepOk.mk rfl ?_) ?_
    · intro d ac w' hd hw hF K hK
      have hF0 := hF
      obtain ⟨x1, x2, y1, y2, g1, g2, rfl, hr⟩ := hF
      clear hr
      refine value_ (w1 := w'.alloc (.cells (C27 0 0) 27)) (v := .pointer (some ⟨w'.heap.size, 0, none⟩)) (by rfl) rfl (by go_simp; rfl) (hK _ _ ?_)
      exact F2.var2 (⟨by decide⟩ : Six 3 7 8 9 10 11) hd hF0
    refine Steps.cons (StepOk.mk rfl ?_) ?_
    · intro d ac w' hd hw hF K hK
      obtain ⟨x2, y2, g1, ha, hh, hF1⟩ := F2.put1 (⟨by decide⟩ : Six 3 7 8 9 10 11) (by rfl) (hw 8 (by kernel_rfl)) hd hF (hw 3 (by kernel_rfl))
      subst ha
      have e1 : (Fr A0 33 37 7 8 (.agg (C27 a n)) x2 (.pointer (some ⟨g1, 0, none⟩)) y2).eval (.tmp 7) = .pointer (some ⟨g1, 0, none⟩) := by
        subst hA0
        simp only [Fr, Act.put, List.setIfInBounds_toArray, List.set_cons_zero, List.set_cons_succ]
        rfl
      have e2 : (Fr A0 33 37 7 8 (.agg (C27 a n)) x2 (.pointer (some ⟨g1, 0, none⟩)) y2).eval (.tmp 33) = .agg (C27 a n) := by
        subst hA0
        simp only [Fr, Act.put, List.setIfInBounds_toArray, List.set_cons_zero, List.set_cons_succ]
        rfl
      refine skip_ (w1 := w'.setCells g1 0 (C27 a n).toList) ?_ ?_ ?_ ?_
      · rfl
      · rfl
      · exact exec_store (new := C27 a n) (old := C27 0 0) 27 (.tmp 7) (.tmp 33) rfl e1 e2 hh (by rfl) siz27 (one27 a n)
      · exact hK _ _ hF1
    refine Steps.cons (StepOk.mk rfl ?_) ?_
    · intro d ac w' hd hw hF K hK
      obtain ⟨x1, y1, g2, ha, hh, hF1⟩ := F2.put2 (⟨by decide⟩ : Six 3 7 8 9 10 11) (by rfl) (hw 9 (by kernel_rfl)) hd hF (hw 7 (by kernel_rfl))
      subst ha
      have e1 : (Fr A0 33 37 7 8 x1 (.agg (C27 b m)) y1 (.pointer (some ⟨g2, 0, none⟩))).eval (.tmp 8) = .pointer (some ⟨g2, 0, none⟩) := by
        subst hA0
        simp only [Fr, Act.put, List.setIfInBounds_toArray, List.set_cons_zero, List.set_cons_succ]
        rfl
      have e2 : (Fr A0 33 37 7 8 x1 (.agg (C27 b m)) y1 (.pointer (some ⟨g2, 0, none⟩))).eval (.tmp 37) = .agg (C27 b m) := by
        subst hA0
        simp only [Fr, Act.put, List.setIfInBounds_toArray, List.set_cons_zero, List.set_cons_succ]
        rfl
      refine skip_ (w1 := w'.setCells g2 0 (C27 b m).toList) ?_ ?_ ?_ ?_
      · rfl
      · rfl
      · exact exec_store (new := C27 b m) (old := C27 0 0) 27 (.tmp 8) (.tmp 37) rfl e1 e2 hh (by rfl) siz27 (one27 b m)
      · exact hK _ _ hF1
    exact Steps.nil
  · intro d ac w' hall hF
    obtain ⟨g7, g8, ha, hB3, l7, l8, ne78, h7, h8⟩ := hF.fin (hall 3 (by decide)) (hall 7 (by decide)) (hall 8 (by decide)) (hall 9 (by decide)) (hall 10 (by decide)) (hall 11 (by decide))
    clear hF hall
    subst ha hA0
    simp only [Fr, Act.put, List.setIfInBounds_toArray, List.set_cons_zero, List.set_cons_succ]
    go_wp2
    generalize hWe : w' = W4 at hB3 h7 h8 ⊢
    have hG4 := blk_kept hG3 hB3
    refine start_ (n := 12) (S := SW W4 G x y) (ds := []) #[false, false, false, false, false, false, false, false, false, false, false, false] (by kernel_rfl) rfl rfl (SW.mk' hG4 (below_drew1 (Below.refl _ _))) (fun hS => ?_)
    refine pure_ (i := 0) (N := some 38) (v := ?_) (a' := ?_) #[true, false, false, false, false, false, false, false, false, false, false, false] rfl rfl (by kernel_rfl) (fun _ _ _ h => h) (Or.inl ⟨by rfl, ?_⟩) ?_ ?_
    rotate_left
    · intro w'
      go_simp
      try (with_reducible rfl)
    rotate_left
    · simp only [Act.put, List.setIfInBounds_toArray, List.set_cons_zero, List.set_cons_succ]
      rfl
    refine pure_ (i := 2) (N := some 40) (v := ?_) (a' := ?_) #[true, false, true, false, false, false, false, false, false, false, false, false] rfl rfl (by kernel_rfl) (fun _ _ _ h => h) (Or.inl ⟨by rfl, ?_⟩) ?_ ?_
    rotate_left
    · intro w'
      go_simp
      try (with_reducible rfl)
    rotate_left
    · simp only [Act.put, List.setIfInBounds_toArray, List.set_cons_zero, List.set_cons_succ]
      rfl
    refine take_ (i := 1) (N := some 39) (v := ?_) (a' := ?_) #[true, true, true, false, false, false, false, false, false, false, false, false] rfl rfl (by kernel_rfl) (fun _ _ _ h => h) (Or.inl ⟨by rfl, ?_⟩) hS ?_ ?_
    rotate_left
    · rintro w' ⟨s0, s1, s2⟩
      go_simp
      try (with_reducible rfl)
    rotate_left
    · simp only [Act.put, List.setIfInBounds_toArray, List.set_cons_zero, List.set_cons_succ]
      rfl
    refine pure_ (i := 4) (N := some 42) (v := ?_) (a' := ?_) #[true, true, true, false, true, false, false, false, false, false, false, false] rfl rfl (by kernel_rfl) (fun _ _ _ h => h) (Or.inl ⟨by rfl, ?_⟩) ?_ ?_
    rotate_left
    · intro w'
      go_simp
      try (with_reducible rfl)
    rotate_left
    · simp only [Act.put, List.setIfInBounds_toArray, List.set_cons_zero, List.set_cons_succ]
      rfl
    refine pure_ (i := 6) (N := some 44) (v := ?_) (a' := ?_) #[true, true, true, false, true, false, true, false, false, false, false, false] rfl rfl (by kernel_rfl) (fun _ _ _ h => h) (Or.inl ⟨by rfl, ?_⟩) ?_ ?_
    rotate_left
    · intro w'
      go_simp
      try (with_reducible rfl)
    rotate_left
    · simp only [Act.put, List.setIfInBounds_toArray, List.set_cons_zero, List.set_cons_succ]
      rfl
    refine take_ (i := 5) (N := some 43) (v := ?_) (a' := ?_) #[true, true, true, false, true, true, true, false, false, false, false, false] rfl rfl (by kernel_rfl) (fun _ _ _ h => h) (Or.inl ⟨by rfl, ?_⟩) hS ?_ ?_
    rotate_left
    · rintro w' ⟨s0, s1, s2⟩
      go_simp
      try (with_reducible rfl)
    rotate_left
    · simp only [Act.put, List.setIfInBounds_toArray, List.set_cons_zero, List.set_cons_succ]
      rfl
    refine at_act fun A0 hA0 => ?_
    refine inv_ (F2 41 45 9 10 3 7 8 9 10 11 31 (.agg (C31 x n)) (.agg (C31 y m)) (C31 0 0) (C31 x n) (C31 y m) W4 A0) [3, 7, 8, 9, 10, 11] rfl (by kernel_rfl) (by kernel_rfl) (fun d ac w' h => SW.mk' hG4 h.below) ?_ ?_ ?_
    · exact F2.start (by rw [hA0]; rfl) rfl rfl rfl rfl rfl rfl hS.2.2
    · refine Steps.cons (StepOk.mk rfl ?_) ?_
      · intro d ac w' hd hw hF K hK
        have hF0 := hF
        obtain ⟨x1, x2, y1, y2, g1, g2, rfl, hr⟩ := hF
        clear hr
        refine goes_ Try.func10 (by kernel_rfl) rfl #[.int .u64 x, .int .i64 n] (by rfl) rfl rfl (by subst hA0; simp only [Fr, Act.put, List.setIfInBounds_toArray, List.set_cons_zero, List.set_cons_succ, List.map_toArray, List.map_cons, List.map_nil]; rfl) ?_
        refine (sakialaw03_great.calls x n x n _ A3.out).mono ?_
        rintro e w2 ⟨rfl, hb⟩
        refine ⟨_, rfl, hK _ _ ?_⟩
        exact F2.val1 (⟨by decide, by decide, by decide, by decide, by decide, by decide⟩ : Dis 41 45 9 10) (⟨by decide⟩ : Six 3 7 8 9 10 11) hF0 hb
      refine Steps.cons (StepOk.mk rfl ?_) ?_
      · intro d ac w' hd hw hF K hK
        have hF0 := hF
        obtain ⟨x1, x2, y1, y2, g1, g2, rfl, hr⟩ := hF
        clear hr
        refine goes_ Try.func10 (by kernel_rfl) rfl #[.int .u64 y, .int .i64 m] (by rfl) rfl rfl (by subst hA0; simp only [Fr, Act.put, List.setIfInBounds_toArray, List.set_cons_zero, List.set_cons_succ, List.map_toArray, List.map_cons, List.map_nil]; rfl) ?_
        refine (sakialaw03_great.calls y m y m _ A4.out).mono ?_
        rintro e w2 ⟨rfl, hb⟩
        refine ⟨_, rfl, hK _ _ ?_⟩
        exact F2.val2 (⟨by decide, by decide, by decide, by decide, by decide, by decide⟩ : Dis 41 45 9 10) (⟨by decide⟩ : Six 3 7 8 9 10 11) hF0 hb
      refine Steps.cons (StepOk.mk rfl ?_) ?_
      · intro d ac w' hd hw hF K hK
        have hF0 := hF
        obtain ⟨x1, x2, y1, y2, g1, g2, rfl, hr⟩ := hF
        clear hr
        refine value_ (w1 := w'.alloc (.cells (C31 0 0) 31)) (v := .pointer (some ⟨w'.heap.size, 0, none⟩)) (by rfl) rfl (by go_simp; rfl) (hK _ _ ?_)
        exact F2.var1 (⟨by decide, by decide, by decide, by decide, by decide, by decide⟩ : Dis 41 45 9 10) (⟨by decide⟩ : Six 3 7 8 9 10 11) hd hF0
      refine Steps.cons (StepOk.mk rfl ?_) ?_
      · intro d ac w' hd hw hF K hK
        have hF0 := hF
        obtain ⟨x1, x2, y1, y2, g1, g2, rfl, hr⟩ := hF
        clear hr
        refine value_ (w1 := w'.alloc (.cells (C31 0 0) 31)) (v := .pointer (some ⟨w'.heap.size, 0, none⟩)) (by rfl) rfl (by go_simp; rfl) (hK _ _ ?_)
        exact F2.var2 (⟨by decide⟩ : Six 3 7 8 9 10 11) hd hF0
      refine Steps.cons (StepOk.mk rfl ?_) ?_
      · intro d ac w' hd hw hF K hK
        obtain ⟨x2, y2, g1, ha, hh, hF1⟩ := F2.put1 (⟨by decide⟩ : Six 3 7 8 9 10 11) (by rfl) (hw 8 (by kernel_rfl)) hd hF (hw 3 (by kernel_rfl))
        subst ha
        have e1 : (Fr A0 41 45 9 10 (.agg (C31 x n)) x2 (.pointer (some ⟨g1, 0, none⟩)) y2).eval (.tmp 9) = .pointer (some ⟨g1, 0, none⟩) := by
          subst hA0
          simp only [Fr, Act.put, List.setIfInBounds_toArray, List.set_cons_zero, List.set_cons_succ]
          rfl
        have e2 : (Fr A0 41 45 9 10 (.agg (C31 x n)) x2 (.pointer (some ⟨g1, 0, none⟩)) y2).eval (.tmp 41) = .agg (C31 x n) := by
          subst hA0
          simp only [Fr, Act.put, List.setIfInBounds_toArray, List.set_cons_zero, List.set_cons_succ]
          rfl
        refine skip_ (w1 := w'.setCells g1 0 (C31 x n).toList) ?_ ?_ ?_ ?_
        · rfl
        · rfl
        · exact exec_store (new := C31 x n) (old := C31 0 0) 31 (.tmp 9) (.tmp 41) rfl e1 e2 hh (by rfl) siz31 (one31 x n)
        · exact hK _ _ hF1
      refine Steps.cons (StepOk.mk rfl ?_) ?_
      · intro d ac w' hd hw hF K hK
        obtain ⟨x1, y1, g2, ha, hh, hF1⟩ := F2.put2 (⟨by decide⟩ : Six 3 7 8 9 10 11) (by rfl) (hw 9 (by kernel_rfl)) hd hF (hw 7 (by kernel_rfl))
        subst ha
        have e1 : (Fr A0 41 45 9 10 x1 (.agg (C31 y m)) y1 (.pointer (some ⟨g2, 0, none⟩))).eval (.tmp 10) = .pointer (some ⟨g2, 0, none⟩) := by
          subst hA0
          simp only [Fr, Act.put, List.setIfInBounds_toArray, List.set_cons_zero, List.set_cons_succ]
          rfl
        have e2 : (Fr A0 41 45 9 10 x1 (.agg (C31 y m)) y1 (.pointer (some ⟨g2, 0, none⟩))).eval (.tmp 45) = .agg (C31 y m) := by
          subst hA0
          simp only [Fr, Act.put, List.setIfInBounds_toArray, List.set_cons_zero, List.set_cons_succ]
          rfl
        refine skip_ (w1 := w'.setCells g2 0 (C31 y m).toList) ?_ ?_ ?_ ?_
        · rfl
        · rfl
        · exact exec_store (new := C31 y m) (old := C31 0 0) 31 (.tmp 10) (.tmp 45) rfl e1 e2 hh (by rfl) siz31 (one31 y m)
        · exact hK _ _ hF1
      exact Steps.nil
    · intro d ac w' hall hF
      obtain ⟨g9, g10, ha, hB4, l9, l10, ne90, h9, h10⟩ := hF.fin (hall 3 (by decide)) (hall 7 (by decide)) (hall 8 (by decide)) (hall 9 (by decide)) (hall 10 (by decide)) (hall 11 (by decide))
      clear hF hall
      subst ha hA0
      simp only [Fr, Act.put, List.setIfInBounds_toArray, List.set_cons_zero, List.set_cons_succ]
      go_wp2
      generalize hWe : w' = W5 at hB4 h9 h10 ⊢
      have hG5 := blk_kept hG4 hB4
      refine start_ (n := 14) (S := SW W5 G x y) (ds := []) #[false, false, false, false, false, false, false, false, false, false, false, false, false, false] (by kernel_rfl) rfl rfl (SW.mk' hG5 (below_drew1 (Below.refl _ _))) (fun hS => ?_)
      refine pure_ (i := 0) (N := some 46) (v := ?_) (a' := ?_) #[true, false, false, false, false, false, false, false, false, false, false, false, false, false] rfl rfl (by kernel_rfl) (fun _ _ _ h => h) (Or.inl ⟨by rfl, ?_⟩) ?_ ?_
      rotate_left
      · intro w'
        go_simp
        try (with_reducible rfl)
      rotate_left
      · simp only [Act.put, List.setIfInBounds_toArray, List.set_cons_zero, List.set_cons_succ]
        rfl
      refine take_ (i := 1) (N := some 47) (v := ?_) (a' := ?_) #[true, true, false, false, false, false, false, false, false, false, false, false, false, false] rfl rfl (by kernel_rfl) (fun _ _ _ h => h) (Or.inl ⟨by rfl, ?_⟩) hS ?_ ?_
      rotate_left
      · rintro w' ⟨s0, s1, s2⟩
        go_simp
        try (with_reducible rfl)
      rotate_left
      · simp only [Act.put, List.setIfInBounds_toArray, List.set_cons_zero, List.set_cons_succ]
        rfl
      refine pure_ (i := 3) (N := some 49) (v := ?_) (a' := ?_) #[true, true, false, true, false, false, false, false, false, false, false, false, false, false] rfl rfl (by kernel_rfl) (fun _ _ _ h => h) (Or.inl ⟨by rfl, ?_⟩) ?_ ?_
      rotate_left
      · intro w'
        go_simp
        try (with_reducible rfl)
      rotate_left
      · simp only [Act.put, List.setIfInBounds_toArray, List.set_cons_zero, List.set_cons_succ]
        rfl
      refine pure_ (i := 5) (N := some 51) (v := ?_) (a' := ?_) #[true, true, false, true, false, true, false, false, false, false, false, false, false, false] rfl rfl (by kernel_rfl) (fun _ _ _ h => h) (Or.inl ⟨by rfl, ?_⟩) ?_ ?_
      rotate_left
      · intro w'
        go_simp
        try (with_reducible rfl)
      rotate_left
      · simp only [Act.put, List.setIfInBounds_toArray, List.set_cons_zero, List.set_cons_succ]
        rfl
      refine take_ (i := 6) (N := some 52) (v := ?_) (a' := ?_) #[true, true, false, true, false, true, true, false, false, false, false, false, false, false] rfl rfl (by kernel_rfl) (fun _ _ _ h => h) (Or.inl ⟨by rfl, ?_⟩) hS ?_ ?_
      rotate_left
      · rintro w' ⟨s0, s1, s2⟩
        go_simp
        try (with_reducible rfl)
      rotate_left
      · simp only [Act.put, List.setIfInBounds_toArray, List.set_cons_zero, List.set_cons_succ]
        rfl
      refine pure_ (i := 8) (N := some 54) (v := ?_) (a' := ?_) #[true, true, false, true, false, true, true, false, true, false, false, false, false, false] rfl rfl (by kernel_rfl) (fun _ _ _ h => h) (Or.inl ⟨by rfl, ?_⟩) ?_ ?_
      rotate_left
      · intro w'
        go_simp
        try (with_reducible rfl)
      rotate_left
      · simp only [Act.put, List.setIfInBounds_toArray, List.set_cons_zero, List.set_cons_succ]
        rfl
      refine at_act fun A0 hA0 => ?_
      refine inv_ (F4 48 53 2 7 (.int .u64 cx) (.int .u64 cy) 50 55 11 12 4 9 10 11 12 13 37 (.agg (C37 32 cx n)) (.agg (C37 32 cy m)) (C37 0 0 0) (C37 32 cx n) (C37 32 cy m) W5 A0) [2, 7, 4, 9, 10, 11, 12, 13] rfl (by kernel_rfl) (by kernel_rfl) (fun d ac w' h => SW.mk' hG5 h.below) ?_ ?_ ?_
      · exact ⟨undef, undef, (fun e => by cases e), (fun e => by cases e), (by rw [show (A0.put (some 48) undef).put (some 53) undef = A0 by rw [hA0]; rfl]; exact F2.start (by rw [hA0]; rfl) rfl rfl rfl rfl rfl rfl hS.2.2)⟩
      · refine Steps.cons (StepOk.mk rfl ?_) ?_
        · intro d ac w' hd hw hF K hK
          have hF0 := hF
          obtain ⟨z1, z2, k1, k2, x1, x2, y1, y2, g1, g2, rfl, hr⟩ := hF
          clear hr
          refine goes_ Try.func14 (by kernel_rfl) rfl #[.int .i64 32, .int .u64 x] (by rfl) rfl rfl (by subst hA0; simp only [Fr, Act.put, List.setIfInBounds_toArray, List.set_cons_zero, List.set_cons_succ, List.map_toArray, List.map_cons, List.map_nil]; rfl) ?_
          refine (sakiaref01_Cut.calls 32 x cx _ A5.out).mono ?_
          rintro e w2 ⟨rfl, hb⟩
          refine ⟨_, rfl, hK _ _ ?_⟩
          exact F4.call1 (⟨by decide⟩ : Apt 48 53 50 55 11 12) (⟨by decide⟩ : Eight 2 7 4 9 10 11 12 13) hF0 hb.below
        refine Steps.cons (StepOk.mk rfl ?_) ?_
        · intro d ac w' hd hw hF K hK
          have hF0 := hF
          obtain ⟨z1, z2, k1, k2, x1, x2, y1, y2, g1, g2, rfl, hr⟩ := hF
          clear hr
          refine goes_ Try.func14 (by kernel_rfl) rfl #[.int .i64 32, .int .u64 y] (by rfl) rfl rfl (by subst hA0; simp only [Fr, Act.put, List.setIfInBounds_toArray, List.set_cons_zero, List.set_cons_succ, List.map_toArray, List.map_cons, List.map_nil]; rfl) ?_
          refine (sakiaref01_Cut.calls 32 y cy _ A6.out).mono ?_
          rintro e w2 ⟨rfl, hb⟩
          refine ⟨_, rfl, hK _ _ ?_⟩
          exact F4.call2 (⟨by decide⟩ : Apt 48 53 50 55 11 12) (⟨by decide⟩ : Eight 2 7 4 9 10 11 12 13) hF0 hb.below
        refine Steps.cons (StepOk.mk rfl ?_) ?_
        · intro d ac w' hd hw hF K hK
          have hF0 := hF
          obtain ⟨z1, z2, k1, k2, x1, x2, y1, y2, g1, g2, rfl, hr⟩ := hF
          clear hr
          obtain rfl := k1 (hw 2 (by kernel_rfl))
          refine value_ (w1 := w') (v := .agg (C37 32 cx n)) (by rfl) rfl (by subst hA0; simp only [Fr, Act.put, List.setIfInBounds_toArray, List.set_cons_zero, List.set_cons_succ]; go_simp; rfl) (hK _ _ ?_)
          exact F4.lift (by decide) (by decide) hF0 fun B h => F2.val1 (⟨by decide, by decide, by decide, by decide, by decide, by decide⟩ : Dis 50 55 11 12) (⟨by decide⟩ : Six 4 9 10 11 12 13) h (Below.refl _ _)
        refine Steps.cons (StepOk.mk rfl ?_) ?_
        · intro d ac w' hd hw hF K hK
          have hF0 := hF
          obtain ⟨z1, z2, k1, k2, x1, x2, y1, y2, g1, g2, rfl, hr⟩ := hF
          clear hr
          obtain rfl := k2 (hw 7 (by kernel_rfl))
          refine value_ (w1 := w') (v := .agg (C37 32 cy m)) (by rfl) rfl (by subst hA0; simp only [Fr, Act.put, List.setIfInBounds_toArray, List.set_cons_zero, List.set_cons_succ]; go_simp; rfl) (hK _ _ ?_)
          exact F4.lift (by decide) (by decide) hF0 fun B h => F2.val2 (⟨by decide, by decide, by decide, by decide, by decide, by decide⟩ : Dis 50 55 11 12) (⟨by decide⟩ : Six 4 9 10 11 12 13) h (Below.refl _ _)
        refine Steps.cons (StepOk.mk rfl ?_) ?_
        · intro d ac w' hd hw hF K hK
          refine value_ (w1 := w'.alloc (.cells (C37 0 0 0) 37)) (v := .pointer (some ⟨w'.heap.size, 0, none⟩)) (by rfl) rfl (by go_simp; rfl) (hK _ _ ?_)
          exact F4.lift (by decide) (by decide) hF fun B h => F2.var1 (⟨by decide, by decide, by decide, by decide, by decide, by decide⟩ : Dis 50 55 11 12) (⟨by decide⟩ : Six 4 9 10 11 12 13) hd h
        refine Steps.cons (StepOk.mk rfl ?_) ?_
        · intro d ac w' hd hw hF K hK
          refine value_ (w1 := w'.alloc (.cells (C37 0 0 0) 37)) (v := .pointer (some ⟨w'.heap.size, 0, none⟩)) (by rfl) rfl (by go_simp; rfl) (hK _ _ ?_)
          exact F4.lift (by decide) (by decide) hF fun B h => F2.var2 (⟨by decide⟩ : Six 4 9 10 11 12 13) hd h
        refine Steps.cons (StepOk.mk rfl ?_) ?_
        · intro d ac w' hd hw hF K hK
          obtain ⟨z1, z2, x2, y2, g1, ha, hh, hF1⟩ := F4.put1 (by decide) (by decide) (⟨by decide⟩ : Six 4 9 10 11 12 13) (by rfl) (hw 10 (by kernel_rfl)) hd hF (hw 4 (by kernel_rfl))
          subst ha
          have e1 : (Fr ((A0.put (some 48) z1).put (some 53) z2) 50 55 11 12 (.agg (C37 32 cx n)) x2 (.pointer (some ⟨g1, 0, none⟩)) y2).eval (.tmp 11) = .pointer (some ⟨g1, 0, none⟩) := by
            subst hA0
            simp only [Fr, Act.put, List.setIfInBounds_toArray, List.set_cons_zero, List.set_cons_succ]
            rfl
          have e2 : (Fr ((A0.put (some 48) z1).put (some 53) z2) 50 55 11 12 (.agg (C37 32 cx n)) x2 (.pointer (some ⟨g1, 0, none⟩)) y2).eval (.tmp 50) = .agg (C37 32 cx n) := by
            subst hA0
            simp only [Fr, Act.put, List.setIfInBounds_toArray, List.set_cons_zero, List.set_cons_succ]
            rfl
          refine skip_ (w1 := w'.setCells g1 0 (C37 32 cx n).toList) ?_ ?_ ?_ ?_
          · rfl
          · rfl
          · exact exec_store (new := C37 32 cx n) (old := C37 0 0 0) 37 (.tmp 11) (.tmp 50) rfl e1 e2 hh (by rfl) siz37 (one37 32 cx n)
          · exact hK _ _ hF1
        refine Steps.cons (StepOk.mk rfl ?_) ?_
        · intro d ac w' hd hw hF K hK
          obtain ⟨z1, z2, x1, y1, g2, ha, hh, hF1⟩ := F4.put2 (by decide) (by decide) (⟨by decide⟩ : Six 4 9 10 11 12 13) (by rfl) (hw 11 (by kernel_rfl)) hd hF (hw 9 (by kernel_rfl))
          subst ha
          have e1 : (Fr ((A0.put (some 48) z1).put (some 53) z2) 50 55 11 12 x1 (.agg (C37 32 cy m)) y1 (.pointer (some ⟨g2, 0, none⟩))).eval (.tmp 12) = .pointer (some ⟨g2, 0, none⟩) := by
            subst hA0
            simp only [Fr, Act.put, List.setIfInBounds_toArray, List.set_cons_zero, List.set_cons_succ]
            rfl
          have e2 : (Fr ((A0.put (some 48) z1).put (some 53) z2) 50 55 11 12 x1 (.agg (C37 32 cy m)) y1 (.pointer (some ⟨g2, 0, none⟩))).eval (.tmp 55) = .agg (C37 32 cy m) := by
            subst hA0
            simp only [Fr, Act.put, List.setIfInBounds_toArray, List.set_cons_zero, List.set_cons_succ]
            rfl
          refine skip_ (w1 := w'.setCells g2 0 (C37 32 cy m).toList) ?_ ?_ ?_ ?_
          · rfl
          · rfl
          · exact exec_store (new := C37 32 cy m) (old := C37 0 0 0) 37 (.tmp 12) (.tmp 55) rfl e1 e2 hh (by rfl) siz37 (one37 32 cy m)
          · exact hK _ _ hF1
        exact Steps.nil
      · intro d ac w' hall hF
        obtain ⟨z1, z2, k1, k2, hF⟩ := hF
        obtain rfl := k1 (hall 2 (by decide))
        obtain rfl := k2 (hall 7 (by decide))
        obtain ⟨g11, g12, ha, hB5, l11, l12, ne12, h11, h12⟩ := hF.fin (hall 4 (by decide)) (hall 9 (by decide)) (hall 10 (by decide)) (hall 11 (by decide)) (hall 12 (by decide)) (hall 13 (by decide))
        clear hF hall k1 k2
        subst ha hA0
        simp only [Fr, Act.put, List.setIfInBounds_toArray, List.set_cons_zero, List.set_cons_succ]
        go_wp2
        generalize hWe : w' = W6 at hB5 h11 h12 ⊢
        have hK6 : BK6 W6 G g7 g8 g9 g10 g11 g12 a n b m x y cx cy := ⟨blk_kept (blk_kept h7 hB4) hB5, blk_kept (blk_kept h8 hB4) hB5, blk_kept h9 hB5, blk_kept h10 hB5, h11, h12, blk_kept hG5 hB5⟩
        have hW6 : Below G w W6 := by
          have hs := hb0.trans (hB3.mono (by rw [← hGe] at hb0 ⊢; exact hb0.size))
          have hs2 := hs.trans (hB4.mono (by rw [← hGe] at hs ⊢; exact hs.size))
          exact hs2.trans (hB5.mono (by rw [← hGe] at hs2 ⊢; exact hs2.size))
        clear h7 h8 h9 h10 h11 h12 hB3 hB4 hB5 hG0 hG3 hG4 hG5 hb0 l7 l8 l9 l10 l11 l12 ne78 ne90 ne12
        refine start_ (n := 31) (S := S6 W6 G g7 g8 g9 g10 g11 g12 a n b m x y cx cy) (ds := []) #[false, false, false, false, false, false, false, false, false, false, false, false, false, false, false, false, false, false, false, false, false, false, false, false, false, false, false, false, false, false, false] (by kernel_rfl) rfl rfl (S6.mk' hK6 (below_drew1 (Below.refl _ _))) (fun hS => ?_)
        refine take_ (i := 0) (N := some 56) (v := ?_) (a' := ?_) #[true, false, false, false, false, false, false, false, false, false, false, false, false, false, false, false, false, false, false, false, false, false, false, false, false, false, false, false, false, false, false] rfl rfl (by kernel_rfl) (fun _ _ _ h => h) (Or.inl ⟨by rfl, ?_⟩) hS ?_ ?_
        rotate_left
        · rintro w' ⟨⟨s0, s1, s2, s3, s4, s5, s6, s7, s8, s9, s10, s11, s12, s13, s14, s15⟩, s16⟩
          go_simp
          try (with_reducible rfl)
        rotate_left
        · simp only [Act.put, List.setIfInBounds_toArray, List.set_cons_zero, List.set_cons_succ]
          rfl
        refine take_ (i := 1) (N := some 57) (v := ?_) (a' := ?_) #[true, true, false, false, false, false, false, false, false, false, false, false, false, false, false, false, false, false, false, false, false, false, false, false, false, false, false, false, false, false, false] rfl rfl (by kernel_rfl) (fun _ _ _ h => h) (Or.inl ⟨by rfl, ?_⟩) hS ?_ ?_
        rotate_left
        · rintro w' ⟨⟨s0, s1, s2, s3, s4, s5, s6, s7, s8, s9, s10, s11, s12, s13, s14, s15⟩, s16⟩
          go_simp
          try (with_reducible rfl)
        rotate_left
        · simp only [Act.put, List.setIfInBounds_toArray, List.set_cons_zero, List.set_cons_succ]
          rfl
        refine take_ (i := 3) (N := some 59) (v := ?_) (a' := ?_) #[true, true, false, true, false, false, false, false, false, false, false, false, false, false, false, false, false, false, false, false, false, false, false, false, false, false, false, false, false, false, false] rfl rfl (by kernel_rfl) (fun _ _ _ h => h) (Or.inl ⟨by rfl, ?_⟩) hS ?_ ?_
        rotate_left
        · rintro w' ⟨⟨s0, s1, s2, s3, s4, s5, s6, s7, s8, s9, s10, s11, s12, s13, s14, s15⟩, s16⟩
          go_simp
          try (with_reducible rfl)
        rotate_left
        · simp only [Act.put, List.setIfInBounds_toArray, List.set_cons_zero, List.set_cons_succ]
          rfl
        refine take_ (i := 4) (N := some 60) (v := ?_) (a' := ?_) #[true, true, false, true, true, false, false, false, false, false, false, false, false, false, false, false, false, false, false, false, false, false, false, false, false, false, false, false, false, false, false] rfl rfl (by kernel_rfl) (fun _ _ _ h => h) (Or.inl ⟨by rfl, ?_⟩) hS ?_ ?_
        rotate_left
        · rintro w' ⟨⟨s0, s1, s2, s3, s4, s5, s6, s7, s8, s9, s10, s11, s12, s13, s14, s15⟩, s16⟩
          go_simp
          try (with_reducible rfl)
        rotate_left
        · simp only [Act.put, List.setIfInBounds_toArray, List.set_cons_zero, List.set_cons_succ]
          rfl
        refine one_ (i := 2) (N := some 58) #[true, true, true, true, true, false, false, false, false, false, false, false, false, false, false, false, false, false, false, false, false, false, false, false, false, false, false, false, false, false, false] rfl rfl (by kernel_rfl) (by simp) (fun K hK => ?_)
        refine goes_ Try.func20 (by kernel_rfl) rfl #[.agg #[.int .u32 a, .int .i64 n], .agg #[.int .u32 b, .int .i64 m]] (by rfl) rfl rfl (by (try simp only [List.map_toArray, List.map_cons, List.map_nil]); first | done | rfl) ?_
        refine (span_Span_uint32_Meets.calls k a n b m mb _ B1.out).mono ?_
        rintro e w' ⟨rfl, hbx⟩
        refine ⟨_, rfl, ?_⟩
        replace hS := S6.next hbx hS
        refine hK.out _ _ hS (fun _ => ?_)
        clear hK K
        refine norm_ (a' := ?_) ?_ ?_
        rotate_left
        · simp only [Act.put, List.setIfInBounds_toArray, List.set_cons_zero, List.set_cons_succ]
          rfl
        refine one_ (i := 5) (N := some 61) #[true, true, true, true, true, true, false, false, false, false, false, false, false, false, false, false, false, false, false, false, false, false, false, false, false, false, false, false, false, false, false] rfl rfl (by kernel_rfl) (by simp) (fun K hK => ?_)
        refine goes_ Try.func21 (by kernel_rfl) rfl #[.agg #[.int .i64 32, .int .u64 cx, .int .i64 n], .agg #[.int .i64 32, .int .u64 cy, .int .i64 m]] (by rfl) rfl rfl (by (try simp only [List.map_toArray, List.map_cons, List.map_nil]); first | done | rfl) ?_
        refine (sakiaref03_Meets.calls k 32 cx n 32 cy m mb _ B2.out).mono ?_
        rintro e w' ⟨rfl, hbx⟩
        refine ⟨_, rfl, ?_⟩
        replace hS := S6.next hbx hS
        refine hK.out _ _ hS (fun _ => ?_)
        clear hK K
        refine norm_ (a' := ?_) ?_ ?_
        rotate_left
        · simp only [Act.put, List.setIfInBounds_toArray, List.set_cons_zero, List.set_cons_succ]
          rfl
        refine pure_ (i := 6) (N := some 62) (v := ?_) (a' := ?_) #[true, true, true, true, true, true, true, false, false, false, false, false, false, false, false, false, false, false, false, false, false, false, false, false, false, false, false, false, false, false, false] rfl rfl (by kernel_rfl) (fun _ _ _ h => h) (Or.inl ⟨by rfl, ?_⟩) ?_ ?_
        rotate_left
        · intro w'
          go_simp
          try (with_reducible rfl)
        rotate_left
        · simp only [Act.put, List.setIfInBounds_toArray, List.set_cons_zero, List.set_cons_succ]
          rfl
        refine pure_ (i := 7) (N := some 63) (v := ?_) (a' := ?_) #[true, true, true, true, true, true, true, true, false, false, false, false, false, false, false, false, false, false, false, false, false, false, false, false, false, false, false, false, false, false, false] rfl rfl (by kernel_rfl) (fun _ _ _ h => h) (Or.inl ⟨by rfl, ?_⟩) ?_ ?_
        rotate_left
        · intro w'
          go_simp
          try (with_reducible rfl)
        rotate_left
        · simp only [Act.put, List.setIfInBounds_toArray, List.set_cons_zero, List.set_cons_succ]
          rfl
        refine take_ (i := 8) (N := some 64) (v := ?_) (a' := ?_) #[true, true, true, true, true, true, true, true, true, false, false, false, false, false, false, false, false, false, false, false, false, false, false, false, false, false, false, false, false, false, false] rfl rfl (by kernel_rfl) (fun _ _ _ h => h) (Or.inl ⟨by rfl, ?_⟩) hS ?_ ?_
        rotate_left
        · rintro w' ⟨⟨s0, s1, s2, s3, s4, s5, s6, s7, s8, s9, s10, s11, s12, s13, s14, s15⟩, s16⟩
          go_simp
          try (with_reducible rfl)
        rotate_left
        · simp only [Act.put, List.setIfInBounds_toArray, List.set_cons_zero, List.set_cons_succ]
          rfl
        refine take_ (i := 9) (N := some 65) (v := ?_) (a' := ?_) #[true, true, true, true, true, true, true, true, true, true, false, false, false, false, false, false, false, false, false, false, false, false, false, false, false, false, false, false, false, false, false] rfl rfl (by kernel_rfl) (fun _ _ _ h => h) (Or.inl ⟨by rfl, ?_⟩) hS ?_ ?_
        rotate_left
        · rintro w' ⟨⟨s0, s1, s2, s3, s4, s5, s6, s7, s8, s9, s10, s11, s12, s13, s14, s15⟩, s16⟩
          go_simp
          try (with_reducible rfl)
        rotate_left
        · simp only [Act.put, List.setIfInBounds_toArray, List.set_cons_zero, List.set_cons_succ]
          rfl
        refine take_ (i := 11) (N := some 67) (v := ?_) (a' := ?_) #[true, true, true, true, true, true, true, true, true, true, false, true, false, false, false, false, false, false, false, false, false, false, false, false, false, false, false, false, false, false, false] rfl rfl (by kernel_rfl) (fun _ _ _ h => h) (Or.inl ⟨by rfl, ?_⟩) hS ?_ ?_
        rotate_left
        · rintro w' ⟨⟨s0, s1, s2, s3, s4, s5, s6, s7, s8, s9, s10, s11, s12, s13, s14, s15⟩, s16⟩
          go_simp
          try (with_reducible rfl)
        rotate_left
        · simp only [Act.put, List.setIfInBounds_toArray, List.set_cons_zero, List.set_cons_succ]
          rfl
        refine take_ (i := 12) (N := some 68) (v := ?_) (a' := ?_) #[true, true, true, true, true, true, true, true, true, true, false, true, true, false, false, false, false, false, false, false, false, false, false, false, false, false, false, false, false, false, false] rfl rfl (by kernel_rfl) (fun _ _ _ h => h) (Or.inl ⟨by rfl, ?_⟩) hS ?_ ?_
        rotate_left
        · rintro w' ⟨⟨s0, s1, s2, s3, s4, s5, s6, s7, s8, s9, s10, s11, s12, s13, s14, s15⟩, s16⟩
          go_simp
          try (with_reducible rfl)
        rotate_left
        · simp only [Act.put, List.setIfInBounds_toArray, List.set_cons_zero, List.set_cons_succ]
          rfl
        refine one_ (i := 10) (N := some 66) #[true, true, true, true, true, true, true, true, true, true, true, true, true, false, false, false, false, false, false, false, false, false, false, false, false, false, false, false, false, false, false] rfl rfl (by kernel_rfl) (by simp) (fun K hK => ?_)
        refine goes_ Try.func20 (by kernel_rfl) rfl #[.agg #[.int .u32 b, .int .i64 m], .agg #[.int .u32 a, .int .i64 n]] (by rfl) rfl rfl (by (try simp only [List.map_toArray, List.map_cons, List.map_nil]); first | done | rfl) ?_
        refine (span_Span_uint32_Meets.calls k b m a n mb _ B3.out).mono ?_
        rintro e w' ⟨rfl, hbx⟩
        refine ⟨_, rfl, ?_⟩
        replace hS := S6.next hbx hS
        refine hK.out _ _ hS (fun _ => ?_)
        clear hK K
        refine norm_ (a' := ?_) ?_ ?_
        rotate_left
        · simp only [Act.put, List.setIfInBounds_toArray, List.set_cons_zero, List.set_cons_succ]
          rfl
        refine one_ (i := 13) (N := some 69) #[true, true, true, true, true, true, true, true, true, true, true, true, true, true, false, false, false, false, false, false, false, false, false, false, false, false, false, false, false, false, false] rfl rfl (by kernel_rfl) (by simp) (fun K hK => ?_)
        refine goes_ Try.func20 (by kernel_rfl) rfl #[.agg #[.int .u32 a, .int .i64 n], .agg #[.int .u32 b, .int .i64 m]] (by rfl) rfl rfl (by (try simp only [List.map_toArray, List.map_cons, List.map_nil]); first | done | rfl) ?_
        refine (span_Span_uint32_Meets.calls k a n b m mb _ B1.out).mono ?_
        rintro e w' ⟨rfl, hbx⟩
        refine ⟨_, rfl, ?_⟩
        replace hS := S6.next hbx hS
        refine hK.out _ _ hS (fun _ => ?_)
        clear hK K
        refine norm_ (a' := ?_) ?_ ?_
        rotate_left
        · simp only [Act.put, List.setIfInBounds_toArray, List.set_cons_zero, List.set_cons_succ]
          rfl
        refine pure_ (i := 14) (N := some 70) (v := ?_) (a' := ?_) #[true, true, true, true, true, true, true, true, true, true, true, true, true, true, true, false, false, false, false, false, false, false, false, false, false, false, false, false, false, false, false] rfl rfl (by kernel_rfl) (fun _ _ _ h => h) (Or.inl ⟨by rfl, ?_⟩) ?_ ?_
        rotate_left
        · intro w'
          go_simp
          try (with_reducible rfl)
        rotate_left
        · simp only [Act.put, List.setIfInBounds_toArray, List.set_cons_zero, List.set_cons_succ]
          rfl
        refine pure_ (i := 15) (N := some 71) (v := ?_) (a' := ?_) #[true, true, true, true, true, true, true, true, true, true, true, true, true, true, true, true, false, false, false, false, false, false, false, false, false, false, false, false, false, false, false] rfl rfl (by kernel_rfl) (fun _ _ _ h => h) (Or.inl ⟨by rfl, ?_⟩) ?_ ?_
        rotate_left
        · intro w'
          go_simp
          try (with_reducible rfl)
        rotate_left
        · simp only [Act.put, List.setIfInBounds_toArray, List.set_cons_zero, List.set_cons_succ]
          rfl
        refine pure_ (i := 16) (N := some 72) (v := ?_) (a' := ?_) #[true, true, true, true, true, true, true, true, true, true, true, true, true, true, true, true, true, false, false, false, false, false, false, false, false, false, false, false, false, false, false] rfl rfl (by kernel_rfl) (fun _ _ _ h => h) (Or.inl ⟨by rfl, ?_⟩) ?_ ?_
        rotate_left
        · intro w'
          go_simp
          try (with_reducible rfl)
        rotate_left
        · simp only [Act.put, List.setIfInBounds_toArray, List.set_cons_zero, List.set_cons_succ]
          rfl
        refine take_ (i := 17) (N := some 73) (v := ?_) (a' := ?_) #[true, true, true, true, true, true, true, true, true, true, true, true, true, true, true, true, true, true, false, false, false, false, false, false, false, false, false, false, false, false, false] rfl rfl (by kernel_rfl) (fun _ _ _ h => h) (Or.inl ⟨by rfl, ?_⟩) hS ?_ ?_
        rotate_left
        · rintro w' ⟨⟨s0, s1, s2, s3, s4, s5, s6, s7, s8, s9, s10, s11, s12, s13, s14, s15⟩, s16⟩
          go_simp
          try (with_reducible rfl)
        rotate_left
        · simp only [Act.put, List.setIfInBounds_toArray, List.set_cons_zero, List.set_cons_succ]
          rfl
        refine take_ (i := 18) (N := some 74) (v := ?_) (a' := ?_) #[true, true, true, true, true, true, true, true, true, true, true, true, true, true, true, true, true, true, true, false, false, false, false, false, false, false, false, false, false, false, false] rfl rfl (by kernel_rfl) (fun _ _ _ h => h) (Or.inl ⟨by rfl, ?_⟩) hS ?_ ?_
        rotate_left
        · rintro w' ⟨⟨s0, s1, s2, s3, s4, s5, s6, s7, s8, s9, s10, s11, s12, s13, s14, s15⟩, s16⟩
          go_simp
          try (with_reducible rfl)
        rotate_left
        · simp only [Act.put, List.setIfInBounds_toArray, List.set_cons_zero, List.set_cons_succ]
          rfl
        refine pure_ (i := 20) (N := some 76) (v := ?_) (a' := ?_) #[true, true, true, true, true, true, true, true, true, true, true, true, true, true, true, true, true, true, true, false, true, false, false, false, false, false, false, false, false, false, false] rfl rfl (by kernel_rfl) (fun _ _ _ h => h) (Or.inl ⟨by rfl, ?_⟩) ?_ ?_
        rotate_left
        · intro w'
          go_simp
          try (with_reducible rfl)
        rotate_left
        · simp only [Act.put, List.setIfInBounds_toArray, List.set_cons_zero, List.set_cons_succ]
          rfl
        refine take_ (i := 21) (N := some 77) (v := ?_) (a' := ?_) #[true, true, true, true, true, true, true, true, true, true, true, true, true, true, true, true, true, true, true, false, true, true, false, false, false, false, false, false, false, false, false] rfl rfl (by kernel_rfl) (fun _ _ _ h => h) (Or.inl ⟨by rfl, ?_⟩) hS ?_ ?_
        rotate_left
        · rintro w' ⟨⟨s0, s1, s2, s3, s4, s5, s6, s7, s8, s9, s10, s11, s12, s13, s14, s15⟩, s16⟩
          go_simp
          try (with_reducible rfl)
        rotate_left
        · simp only [Act.put, List.setIfInBounds_toArray, List.set_cons_zero, List.set_cons_succ]
          rfl
        refine pure_ (i := 22) (N := some 78) (v := ?_) (a' := ?_) #[true, true, true, true, true, true, true, true, true, true, true, true, true, true, true, true, true, true, true, false, true, true, true, false, false, false, false, false, false, false, false] rfl rfl (by kernel_rfl) (fun _ _ _ h => h) (Or.inl ⟨by rfl, ?_⟩) ?_ ?_
        rotate_left
        · intro w'
          go_simp
          try (with_reducible rfl)
        rotate_left
        · simp only [Act.put, List.setIfInBounds_toArray, List.set_cons_zero, List.set_cons_succ]
          rfl
        refine pure_ (i := 23) (N := some 79) (v := ?_) (a' := ?_) #[true, true, true, true, true, true, true, true, true, true, true, true, true, true, true, true, true, true, true, false, true, true, true, true, false, false, false, false, false, false, false] rfl rfl (by kernel_rfl) (fun _ _ _ h => h) (Or.inl ⟨by rfl, ?_⟩) ?_ ?_
        rotate_left
        · intro w'
          go_simp
          try (with_reducible rfl)
        rotate_left
        · simp only [Act.put, List.setIfInBounds_toArray, List.set_cons_zero, List.set_cons_succ]
          rfl
        refine pure_ (i := 24) (N := some 80) (v := ?_) (a' := ?_) #[true, true, true, true, true, true, true, true, true, true, true, true, true, true, true, true, true, true, true, false, true, true, true, true, true, false, false, false, false, false, false] rfl rfl (by kernel_rfl) (fun _ _ _ h => h) (Or.inl ⟨by rfl, ?_⟩) ?_ ?_
        rotate_left
        · intro w'
          go_simp
          try (with_reducible rfl)
        rotate_left
        · simp only [Act.put, List.setIfInBounds_toArray, List.set_cons_zero, List.set_cons_succ]
          rfl
        refine take_ (i := 25) (N := some 81) (v := ?_) (a' := ?_) #[true, true, true, true, true, true, true, true, true, true, true, true, true, true, true, true, true, true, true, false, true, true, true, true, true, true, false, false, false, false, false] rfl rfl (by kernel_rfl) (fun _ _ _ h => h) (Or.inl ⟨by rfl, ?_⟩) hS ?_ ?_
        rotate_left
        · rintro w' ⟨⟨s0, s1, s2, s3, s4, s5, s6, s7, s8, s9, s10, s11, s12, s13, s14, s15⟩, s16⟩
          go_simp
          try (with_reducible rfl)
        rotate_left
        · simp only [Act.put, List.setIfInBounds_toArray, List.set_cons_zero, List.set_cons_succ]
          rfl
        refine pure_ (i := 26) (N := some 82) (v := ?_) (a' := ?_) #[true, true, true, true, true, true, true, true, true, true, true, true, true, true, true, true, true, true, true, false, true, true, true, true, true, true, true, false, false, false, false] rfl rfl (by kernel_rfl) (fun _ _ _ h => h) (Or.inl ⟨by rfl, ?_⟩) ?_ ?_
        rotate_left
        · intro w'
          go_simp
          try (with_reducible rfl)
        rotate_left
        · simp only [Act.put, List.setIfInBounds_toArray, List.set_cons_zero, List.set_cons_succ]
          rfl
        refine pure_ (i := 27) (N := some 83) (v := ?_) (a' := ?_) #[true, true, true, true, true, true, true, true, true, true, true, true, true, true, true, true, true, true, true, false, true, true, true, true, true, true, true, true, false, false, false] rfl rfl (by kernel_rfl) (fun _ _ _ h => h) (Or.inl ⟨by rfl, ?_⟩) ?_ ?_
        rotate_left
        · intro w'
          go_simp
          try (with_reducible rfl)
        rotate_left
        · simp only [Act.put, List.setIfInBounds_toArray, List.set_cons_zero, List.set_cons_succ]
          rfl
        refine one_ (i := 19) (N := some 75) #[true, true, true, true, true, true, true, true, true, true, true, true, true, true, true, true, true, true, true, true, true, true, true, true, true, true, true, true, false, false, false] rfl rfl (by kernel_rfl) (by simp) (fun K hK => ?_)
        refine goes_ Try.func22 (by kernel_rfl) rfl #[.agg #[.int .u64 x, .int .i64 n], .agg #[.int .u64 y, .int .i64 m]] (by rfl) rfl rfl (by (try simp only [List.map_toArray, List.map_cons, List.map_nil]); first | done | rfl) ?_
        refine (span_Span_uint64_Meets.calls k x n y m md _ B4.out).mono ?_
        rintro e w' ⟨rfl, hbx⟩
        refine ⟨_, rfl, ?_⟩
        replace hS := S6.next hbx hS
        refine hK.out _ _ hS (fun _ => ?_)
        clear hK K
        refine norm_ (a' := ?_) ?_ ?_
        rotate_left
        · simp only [Act.put, List.setIfInBounds_toArray, List.set_cons_zero, List.set_cons_succ]
          rfl
        refine one_ (i := 28) (N := some 84) #[true, true, true, true, true, true, true, true, true, true, true, true, true, true, true, true, true, true, true, true, true, true, true, true, true, true, true, true, true, false, false] rfl rfl (by kernel_rfl) (by simp) (fun K hK => ?_)
        refine goes_ Try.func21 (by kernel_rfl) rfl #[.agg #[.int .i64 64, .int .u64 x, .int .i64 n], .agg #[.int .i64 64, .int .u64 y, .int .i64 m]] (by rfl) rfl rfl (by (try simp only [List.map_toArray, List.map_cons, List.map_nil]); first | done | rfl) ?_
        refine (sakiaref03_Meets.calls k 64 x n 64 y m md _ B5.out).mono ?_
        rintro e w' ⟨rfl, hbx⟩
        refine ⟨_, rfl, ?_⟩
        replace hS := S6.next hbx hS
        refine hK.out _ _ hS (fun _ => ?_)
        clear hK K
        refine norm_ (a' := ?_) ?_ ?_
        rotate_left
        · simp only [Act.put, List.setIfInBounds_toArray, List.set_cons_zero, List.set_cons_succ]
          rfl
        refine pure_ (i := 29) (N := some 85) (v := ?_) (a' := ?_) #[true, true, true, true, true, true, true, true, true, true, true, true, true, true, true, true, true, true, true, true, true, true, true, true, true, true, true, true, true, true, false] rfl rfl (by kernel_rfl) (fun _ _ _ h => h) (Or.inl ⟨by rfl, ?_⟩) ?_ ?_
        rotate_left
        · intro w'
          go_simp
          try (with_reducible rfl)
        rotate_left
        · simp only [Act.put, List.setIfInBounds_toArray, List.set_cons_zero, List.set_cons_succ]
          rfl
        refine pure_ (i := 30) (N := some 86) (v := ?_) (a' := ?_) #[true, true, true, true, true, true, true, true, true, true, true, true, true, true, true, true, true, true, true, true, true, true, true, true, true, true, true, true, true, true, true] rfl rfl (by kernel_rfl) (fun _ _ _ h => h) (Or.inl ⟨by rfl, ?_⟩) ?_ ?_
        rotate_left
        · intro w'
          go_simp
          try (with_reducible rfl)
        rotate_left
        · simp only [Act.put, List.setIfInBounds_toArray, List.set_cons_zero, List.set_cons_succ]
          rfl
        refine done_ (by kernel_rfl) ?_
        go_wp2_with (first
          | (go_at_call 18; refine (span_Span_uint32_Join.calls a n b m j1 j2 jb _ D1.out).mono ?_; rintro e w2 ⟨rfl, hb⟩; have hN := blk_new w2 (.cells #[.int .u32 j1, .int .i64 j2] 27); have hBn := (hS.bel.trans (hb.mono hS.bel.size)).alloc (hS.bel.trans (hb.mono hS.bel.size)).size (.cells #[.int .u32 j1, .int .i64 j2] 27)))
        generalize hWe : w2.alloc (.cells #[.int .u32 j1, .int .i64 j2] 27) = W9 at hN hBn ⊢
        generalize hge : w2.heap.size = g13 at hN ⊢
        have hN9 := hN
        have hB9 := hBn
        clear hN hBn hS hb hWe hge
        have hD4 := D4.out
        cases jb with
        | true =>
          rw [if_pos rfl] at hD4
          obtain ⟨e1, e2⟩ := hD4
          obtain rfl : a = j1 := e1.symm
          obtain rfl : n + m = j2 := e2.symm
          have hq : (pp == cy) = true := D3.out
          clear D4 D3 D1 B1 B2 B3 B4 B5 A1 A2 A3 A4 A5 A6
          refine start_ (n := 9) (S := S9 W6 W9 G g7 g8 g9 g10 g11 g12 a n b m x y cx cy g13 a (n + m)) (ds := []) #[false, false, false, false, false, false, false, false, false] (by kernel_rfl) rfl rfl (S9.mk' hK6 hB9 hN9 (below_drew1 (Below.refl _ _))) (fun hS => ?_)
          refine pure_ (i := 0) (N := some 93) (v := ?_) (a' := ?_) #[true, false, false, false, false, false, false, false, false] rfl rfl (by kernel_rfl) (fun _ _ _ h => h) (Or.inl ⟨by rfl, ?_⟩) ?_ ?_
          rotate_left
          · intro w'
            go_simp
            try (with_reducible rfl)
          rotate_left
          · simp only [Act.put, List.setIfInBounds_toArray, List.set_cons_zero, List.set_cons_succ]
            rfl
          refine pure_ (i := 1) (N := some 94) (v := ?_) (a' := ?_) #[true, true, false, false, false, false, false, false, false] rfl rfl (by kernel_rfl) (fun _ _ _ h => h) (Or.inl ⟨by rfl, ?_⟩) ?_ ?_
          rotate_left
          · intro w'
            go_simp
            try (with_reducible rfl)
          rotate_left
          · simp only [Act.put, List.setIfInBounds_toArray, List.set_cons_zero, List.set_cons_succ]
            rfl
          refine take_ (i := 2) (N := some 95) (v := ?_) (a' := ?_) #[true, true, true, false, false, false, false, false, false] rfl rfl (by kernel_rfl) (fun _ _ _ h => h) (Or.inl ⟨by rfl, ?_⟩) hS ?_ ?_
          rotate_left
          · rintro w' ⟨⟨s0, s1, s2, s3, s4, s5, s6, s7, s8, s9, s10, s11, s12, s13, s14, s15⟩, s16⟩
            go_simp
            try (with_reducible rfl)
          rotate_left
          · simp only [Act.put, List.setIfInBounds_toArray, List.set_cons_zero, List.set_cons_succ]
            rfl
          refine pure_ (i := 3) (N := some 96) (v := ?_) (a' := ?_) #[true, true, true, true, false, false, false, false, false] rfl rfl (by kernel_rfl) (fun _ _ _ h => h) (Or.inl ⟨by rfl, ?_⟩) ?_ ?_
          rotate_left
          · intro w'
            go_simp
            try (with_reducible rfl)
          rotate_left
          · simp only [Act.put, List.setIfInBounds_toArray, List.set_cons_zero, List.set_cons_succ]
            rfl
          refine pure_ (i := 5) (N := some 98) (v := ?_) (a' := ?_) #[true, true, true, true, false, true, false, false, false] rfl rfl (by kernel_rfl) (fun _ _ _ h => h) (Or.inl ⟨by rfl, ?_⟩) ?_ ?_
          rotate_left
          · intro w'
            go_simp
            try (with_reducible rfl)
          rotate_left
          · simp only [Act.put, List.setIfInBounds_toArray, List.set_cons_zero, List.set_cons_succ]
            rfl
          refine take_ (i := 6) (N := some 99) (v := ?_) (a' := ?_) #[true, true, true, true, false, true, true, false, false] rfl rfl (by kernel_rfl) (fun _ _ _ h => h) (Or.inl ⟨by rfl, ?_⟩) hS ?_ ?_
          rotate_left
          · rintro w' ⟨⟨s0, s1, s2, s3, s4, s5, s6, s7, s8, s9, s10, s11, s12, s13, s14, s15⟩, s16⟩
            go_simp
            try (with_reducible rfl)
          rotate_left
          · simp only [Act.put, List.setIfInBounds_toArray, List.set_cons_zero, List.set_cons_succ]
            rfl
          refine one_ (i := 4) (N := some 97) #[true, true, true, true, true, true, true, false, false] rfl rfl (by kernel_rfl) (by simp) (fun K hK => ?_)
          refine goes_ Try.func23 (by kernel_rfl) rfl #[.int .i64 32, .int .u64 x, .int .i64 n] (by rfl) rfl rfl (by (try simp only [List.map_toArray, List.map_cons, List.map_nil]); first | done | rfl) ?_
          refine (sakiaref01_Plus.calls 32 x n pp _ D2.out).mono ?_
          rintro e w' ⟨rfl, hdx⟩
          refine ⟨_, rfl, ?_⟩
          replace hS := S9.next hdx.below hS
          refine hK.out _ _ hS (fun _ => ?_)
          clear hK K
          refine norm_ (a' := ?_) ?_ ?_
          rotate_left
          · simp only [Act.put, List.setIfInBounds_toArray, List.set_cons_zero, List.set_cons_succ]
            rfl
          refine pure_ (i := 7) (N := some 100) (v := ?_) (a' := ?_) #[true, true, true, true, true, true, true, true, false] rfl rfl (by kernel_rfl) (fun _ _ _ h => h) (Or.inl ⟨by rfl, ?_⟩) ?_ ?_
          rotate_left
          · intro w'
            go_simp
            try (with_reducible rfl)
          rotate_left
          · simp only [Act.put, List.setIfInBounds_toArray, List.set_cons_zero, List.set_cons_succ]
            rfl
          refine pure_ (i := 8) (N := some 101) (v := ?_) (a' := ?_) #[true, true, true, true, true, true, true, true, true] rfl rfl (by kernel_rfl) (fun _ _ _ h => h) (Or.inl ⟨by rfl, ?_⟩) ?_ ?_
          rotate_left
          · intro w'
            go_simp
            try (with_reducible rfl)
          rotate_left
          · simp only [Act.put, List.setIfInBounds_toArray, List.set_cons_zero, List.set_cons_succ]
            rfl
          refine done_ (by kernel_rfl) ?_
          obtain ⟨⟨s0, s1, s2, s3, s4, s5, s6, s7, s8, s9, s10, s11, s12, s13, s14, s15⟩, k1, k2, k3, k4⟩ := hS
          have hg0 : w'.cell? ⟨g13, 0, none⟩ = some (.int .u32 a) := (blk_cell (blk_kept k3 k4) 0).trans rfl
          have hg1 : w'.cell? ⟨g13, 1, none⟩ = some (.int .i64 (n + m)) := (blk_cell (blk_kept k3 k4) 1).trans rfl
          go_wp2_with (go_at_call 7; refine (sakialaw03_live.calls true _ L.out).mono ?_; rintro e w10 ⟨rfl, hbl⟩)
          go_ret
          have h6 := k2.trans (k4.mono k2.size)
          have h7 := h6.trans (hbl.mono h6.size)
          rw [hGe]
          exact ⟨rfl, hW6.trans (h7.mono (by rw [← hGe]; exact hW6.size))⟩
        | false =>
          rw [if_neg (by simp)] at hD4
          obtain ⟨rfl, rfl⟩ := hD4
          have hq : (pp == cy) = false := D3.out
          clear D4 D3 D1 B1 B2 B3 B4 B5 A1 A2 A3 A4 A5 A6
          refine start_ (n := 9) (S := S9 W6 W9 G g7 g8 g9 g10 g11 g12 a n b m x y cx cy g13 0 0) (ds := []) #[false, false, false, false, false, false, false, false, false] (by kernel_rfl) rfl rfl (S9.mk' hK6 hB9 hN9 (below_drew1 (Below.refl _ _))) (fun hS => ?_)
          refine pure_ (i := 0) (N := some 93) (v := ?_) (a' := ?_) #[true, false, false, false, false, false, false, false, false] rfl rfl (by kernel_rfl) (fun _ _ _ h => h) (Or.inl ⟨by rfl, ?_⟩) ?_ ?_
          rotate_left
          · intro w'
            go_simp
            try (with_reducible rfl)
          rotate_left
          · simp only [Act.put, List.setIfInBounds_toArray, List.set_cons_zero, List.set_cons_succ]
            rfl
          refine pure_ (i := 1) (N := some 94) (v := ?_) (a' := ?_) #[true, true, false, false, false, false, false, false, false] rfl rfl (by kernel_rfl) (fun _ _ _ h => h) (Or.inl ⟨by rfl, ?_⟩) ?_ ?_
          rotate_left
          · intro w'
            go_simp
            try (with_reducible rfl)
          rotate_left
          · simp only [Act.put, List.setIfInBounds_toArray, List.set_cons_zero, List.set_cons_succ]
            rfl
          refine take_ (i := 2) (N := some 95) (v := ?_) (a' := ?_) #[true, true, true, false, false, false, false, false, false] rfl rfl (by kernel_rfl) (fun _ _ _ h => h) (Or.inl ⟨by rfl, ?_⟩) hS ?_ ?_
          rotate_left
          · rintro w' ⟨⟨s0, s1, s2, s3, s4, s5, s6, s7, s8, s9, s10, s11, s12, s13, s14, s15⟩, s16⟩
            go_simp
            try (with_reducible rfl)
          rotate_left
          · simp only [Act.put, List.setIfInBounds_toArray, List.set_cons_zero, List.set_cons_succ]
            rfl
          refine pure_ (i := 3) (N := some 96) (v := ?_) (a' := ?_) #[true, true, true, true, false, false, false, false, false] rfl rfl (by kernel_rfl) (fun _ _ _ h => h) (Or.inl ⟨by rfl, ?_⟩) ?_ ?_
          rotate_left
          · intro w'
            go_simp
            try (with_reducible rfl)
          rotate_left
          · simp only [Act.put, List.setIfInBounds_toArray, List.set_cons_zero, List.set_cons_succ]
            rfl
          refine pure_ (i := 5) (N := some 98) (v := ?_) (a' := ?_) #[true, true, true, true, false, true, false, false, false] rfl rfl (by kernel_rfl) (fun _ _ _ h => h) (Or.inl ⟨by rfl, ?_⟩) ?_ ?_
          rotate_left
          · intro w'
            go_simp
            try (with_reducible rfl)
          rotate_left
          · simp only [Act.put, List.setIfInBounds_toArray, List.set_cons_zero, List.set_cons_succ]
            rfl
          refine take_ (i := 6) (N := some 99) (v := ?_) (a' := ?_) #[true, true, true, true, false, true, true, false, false] rfl rfl (by kernel_rfl) (fun _ _ _ h => h) (Or.inl ⟨by rfl, ?_⟩) hS ?_ ?_
          rotate_left
          · rintro w' ⟨⟨s0, s1, s2, s3, s4, s5, s6, s7, s8, s9, s10, s11, s12, s13, s14, s15⟩, s16⟩
            go_simp
            try (with_reducible rfl)
          rotate_left
          · simp only [Act.put, List.setIfInBounds_toArray, List.set_cons_zero, List.set_cons_succ]
            rfl
          refine one_ (i := 4) (N := some 97) #[true, true, true, true, true, true, true, false, false] rfl rfl (by kernel_rfl) (by simp) (fun K hK => ?_)
          refine goes_ Try.func23 (by kernel_rfl) rfl #[.int .i64 32, .int .u64 x, .int .i64 n] (by rfl) rfl rfl (by (try simp only [List.map_toArray, List.map_cons, List.map_nil]); first | done | rfl) ?_
          refine (sakiaref01_Plus.calls 32 x n pp _ D2.out).mono ?_
          rintro e w' ⟨rfl, hdx⟩
          refine ⟨_, rfl, ?_⟩
          replace hS := S9.next hdx.below hS
          refine hK.out _ _ hS (fun _ => ?_)
          clear hK K
          refine norm_ (a' := ?_) ?_ ?_
          rotate_left
          · simp only [Act.put, List.setIfInBounds_toArray, List.set_cons_zero, List.set_cons_succ]
            rfl
          refine pure_ (i := 7) (N := some 100) (v := ?_) (a' := ?_) #[true, true, true, true, true, true, true, true, false] rfl rfl (by kernel_rfl) (fun _ _ _ h => h) (Or.inl ⟨by rfl, ?_⟩) ?_ ?_
          rotate_left
          · intro w'
            go_simp
            try (with_reducible rfl)
          rotate_left
          · simp only [Act.put, List.setIfInBounds_toArray, List.set_cons_zero, List.set_cons_succ]
            rfl
          refine pure_ (i := 8) (N := some 101) (v := ?_) (a' := ?_) #[true, true, true, true, true, true, true, true, true] rfl rfl (by kernel_rfl) (fun _ _ _ h => h) (Or.inl ⟨by rfl, ?_⟩) ?_ ?_
          rotate_left
          · intro w'
            go_simp
            try (with_reducible rfl)
          rotate_left
          · simp only [Act.put, List.setIfInBounds_toArray, List.set_cons_zero, List.set_cons_succ]
            rfl
          refine done_ (by kernel_rfl) ?_
          obtain ⟨⟨s0, s1, s2, s3, s4, s5, s6, s7, s8, s9, s10, s11, s12, s13, s14, s15⟩, k1, k2, k3, k4⟩ := hS
          have hg0 : w'.cell? ⟨g13, 0, none⟩ = some (.int .u32 0) := (blk_cell (blk_kept k3 k4) 0).trans rfl
          have hg1 : w'.cell? ⟨g13, 1, none⟩ = some (.int .i64 0) := (blk_cell (blk_kept k3 k4) 1).trans rfl
          go_wp2_with (go_at_call 7; refine (sakialaw03_live.calls true _ L.out).mono ?_; rintro e w10 ⟨rfl, hbl⟩)
          go_ret
          have h6 := k2.trans (k4.mono k2.size)
          have h7 := h6.trans (hbl.mono h6.size)
          rw [hGe]
          exact ⟨rfl, hW6.trans (h7.mono (by rw [← hGe]; exact hW6.size))⟩
end Go.Proofs.Ytbgbhoidchdjmaa.QSpanMeets
