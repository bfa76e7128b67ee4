/- Pieces of a span of 32 digits: what it answers and that no older memory changes. No conditions but those that the theorems name. -/
import Derived.Test.YtbgbhoidchdjmaaPcBase
namespace Go.Proofs.Ytbgbhoidchdjmaa.Pieces
open Go.RowKit Go.Shelf Go.Proofs.YtbgbhoidchdjmaaW.PrintWords Go.Proofs.YtbgbhoidchdjmaaW.PrintLast Go.Proofs.YtbgbhoidchdjmaaW.PrintMore
attribute [local go_sem] max2_int min2_int max_two min_two max_three min_three max_four min_four
attribute [local go_sem] Oper.semAt_some
set_option linter.unusedVariables false
set_option linter.unusedSimpArgs false
/-- the positions of a span -/
def poss32 (a n : Int) : List Int := (List.range n.toNat).map fun (i : Nat) => (a + (i : Int)) % 4294967296
theorem poss32_succ (a : Int) (i : Nat) : poss32 a ((i + 1 : Nat) : Int) = poss32 a (i : Int) ++ [(a + (i : Int)) % 4294967296] := by
  simp [poss32, List.range_succ]
theorem poss32_prefix (a n : Int) (i : Nat) (h : (i : Int) < n) : poss32 a (i : Int) ++ [(a + (i : Int)) % 4294967296] <+: poss32 a n := by
  rw [← poss32_succ]
  unfold poss32
  refine List.IsPrefix.map _ ?_
  rw [List.prefix_iff_eq_take, List.take_range, List.length_range, Int.toNat_natCast, Nat.min_eq_left (by omega)]
set_option maxRecDepth 100000 in
set_option maxHeartbeats 2000000 in
theorem all48 (l Bn : Nat) (a n : Int) (ha : 0 ≤ a ∧ a < 4294967296) (hn : 0 ≤ n ∧ n ≤ 1073741824) (J Jx : List Int → World → Prop)
    (hJ : ∀ pre W W', J pre W → W.grownBy W' none → J pre W')
    (hY : ∀ pre x W, J pre W → pre.length < n.toNat → YieldAt Fence.wide 2 Try.prog l #[.int .u32 x] W fun e W' =>
      (e = .returned (.bool true) ∧ J (pre ++ [x]) W' ∧ KB Bn W W') ∨ (e = .returned (.bool false) ∧ Jx (pre ++ [x]) W'))
    (W : World) (hB0 : W.heap[Bn]? = some (.cells #[.int .u32 a, .int .i64 n] 27 (0, 0))) (h0 : J [] W) :
    CallsIn Fence.wide 3 Try.prog 48 #[.func (.yield l) #[] #[], .pointer (some ⟨Bn, 0, none⟩)] W fun e W' => (∃ v, e = .returned v) ∧
      ((∃ ys, ys = poss32 a n ∧ J ys W') ∨ (∃ pre, pre <+: poss32 a n ∧ Jx pre W')) := by
  have hu27 := Try.underlying27
  refine callsIn_of_wp Try.func48 rfl trivial ?_ rfl
  simp only [Try.ntmps48, List.size_toArray, List.length_cons, List.length_nil, Nat.reduceAdd, Nat.reduceSub, Array.replicate_succ, Array.replicate_zero, List.push_toArray, List.append_toArray, List.nil_append, List.cons_append]
  have cc : ∀ W' : World, W'.heap[Bn]? = W.heap[Bn]? → W'.cell? ⟨Bn, 0, none⟩ = some (.int .u32 a) ∧ W'.cell? ⟨Bn, 1, none⟩ = some (.int .i64 n) := fun W' h => by
    rw [hB0] at h
    exact ⟨by simp [World.cell?, h], by simp [World.cell?, h]⟩
  have hBl : Bn < W.heap.size := (Array.getElem?_eq_some_iff.1 hB0).1
  have hlt' : ∀ W' : World, W'.heap[Bn]? = W.heap[Bn]? → Bn < W'.heap.size := fun W' h => by
    rw [hB0] at h
    exact (Array.getElem?_eq_some_iff.1 h).1
  obtain ⟨c0, c1⟩ := cc W rfl
  have hright : span_Span_uint32_Right.f a n = some true := by
    unfold span_Span_uint32_Right.f
    rw [if_pos (by omega), decide_eq_true (by omega)]
  gi_wp2_with (refine ⟨trivial, ?_⟩; gi_at_call 29; refine (callsIn_wide.2 (span_Span_uint32_Right.calls a n true _ hright)).mono ?_; rintro e W1 ⟨rfl, hb1⟩; have hk1 := hb1.block Bn hBl; obtain ⟨d0, d1⟩ := cc W1 hk1)
  have hJ1 : J [] W1 := hJ _ _ _ h0 (grown_of_below hb1)
  gi_loopw [9] (fun v wr => ∃ i : Nat, v = .int .i64 i ∧ (i : Int) ≤ n ∧ J (poss32 a i) wr ∧ wr.heap[Bn]? = W.heap[Bn]?) (fun v wr => n.toNat - (intOf v).toNat)
  case atStart =>
    exact ⟨0, rfl, by omega, hJ1, hk1⟩
  case round =>
    obtain ⟨i, rfl, hi, hJi, hki⟩ := hrel
    obtain ⟨e0, e1⟩ := cc wr hki
    by_cases hlt : (i : Int) < n
    · have hadd : wide_Add_uint32.f a i = some ((a + (i : Int)) % 4294967296) := by
        unfold wide_Add_uint32.f
        simp [IntKind.wrap, IntKind.bits, IntKind.signed]
        done
      gi_wp2_with (refine ⟨trivial, ?_⟩; gi_at_call 44; refine (callsIn_wide.2 (wide_Add_uint32.calls a i _ _ hadd)).mono ?_; rintro e W2 ⟨rfl, hd2⟩; obtain ⟨fn, tmps, assign, body, hy, hR⟩ := hY (poss32 a i) ((a + (i : Int)) % 4294967296) W2 (hJ _ _ _ hJi (grown_of_below hd2.below)) (by simp [poss32]; omega))
      have hk2 : W2.heap[Bn]? = W.heap[Bn]? := (hd2.below.block Bn (hlt' wr hki)).trans hki
      refine hR.mono ?_
      rintro e W3 (⟨rfl, hJ3, hk3⟩ | ⟨rfl, hJx3⟩)
      · gi_wp2
        go_roundw
        case rel => exact ⟨i + 1, by simp [wrap64] <;> omega, by omega, by rw [poss32_succ]; exact hJ3, Eq.trans hk3 hk2⟩
        case measure => simp [wrap64, intOf] <;> omega
      · gi_wp2
        refine bodyPost_ret (results_none rfl _ _ _) rfl ?_
        exact ⟨⟨_, rfl⟩, .inr ⟨_, poss32_prefix a n i (by omega), hJx3⟩⟩
    · gi_wp2
      go_end0
      obtain rfl : n = (i : Int) := by omega
      exact ⟨⟨_, rfl⟩, .inl hJi⟩
set_option maxHeartbeats 1000000 in
theorem all37 (a n : Int) (k : Nat) (w : World) :
    CallsIn Fence.wide k Try.prog 37 #[.agg #[.int .u32 a, .int .i64 n]] w fun e w' => e = .returned (.func (.func 48) #[] #[.pointer (some ⟨w.heap.size, 0, none⟩)]) ∧ w' = w.alloc (.cells #[.int .u32 a, .int .i64 n] 27) := by
  have hu27 := Try.underlying27
  refine callsIn_of_wp Try.func37 rfl trivial ?_ rfl
  simp only [Try.ntmps37, List.size_toArray, List.length_cons, List.length_nil, Nat.reduceAdd, Nat.reduceSub, Array.replicate_succ, Array.replicate_zero, List.push_toArray, List.append_toArray, List.nil_append, List.cons_append]
  gi_wp2
  go_ret
  exact ⟨rfl, rfl⟩
theorem all_stops (Bn : Nat) (a n : Int) (ha : 0 ≤ a ∧ a < 4294967296) (hn : 0 ≤ n ∧ n ≤ 1073741824) (w : World) (hB0 : w.heap[Bn]? = some (.cells #[.int .u32 a, .int .i64 n] 27 (0, 0))) :
    SeqStopsK Fence.wide 3 Try.prog 48 #[.pointer (some ⟨Bn, 0, none⟩)] (fun x : Int => #[Value.int .u32 x]) (KB Bn) (fun ys => ys = poss32 a n) (fun pre => pre <+: poss32 a n) n.toNat w := fun l J Jx W hW hJ _ hY h0 =>
  all48 l Bn a n ha hn J Jx (fun pre A B hs hg => hJ pre A B none hs hg (fun r e => by cases e)) hY W ((hW.block Bn (Array.getElem?_eq_some_iff.1 hB0).1).trans hB0) h0
def slot32 (cap p : Int) : Int := wrap64 (Go.bits .and .u32 p ((wrap64 (cap - 1)) % 4294967296))
/-- a round behind its first row -/
noncomputable def rest9 : Code := codeR (codeB (codeB (codeB (codeR (codeL (codeR (codeR (codeR (Try.f9.body.getD .skip)))))))))
set_option maxRecDepth 100000 in
set_option maxHeartbeats 2000000 in
theorem fin9a (l : Nat) (B0 O IB CB : Nat) (slot : Int → Int) (pre : List Int) (x : Int) (X : World) (cs1 cs2 : Array Value) (Q : Exit → Act → World → Prop) (t0 t1 t2 t3 t4 t6 t9 t10 t11 t12 t13 t14 t15 t16 t17 t18 t19 t20 t21 t22 t23 t24 t25 t26 t27 t28 t29 t30 t31 t32 t33 t34 t35 t36 t37 t38 t39 t40 t41 t42 t43 t44 t45 t46 t47 t48 t49 t50 t51 t52 t53 t54 t55 t56 : Value)
    (hBX : B0 ≤ X.heap.size) (hle : B0 ≤ O) (hIB : IB ≠ O) (hCB : CB ≠ O) (hBnX : X.heap[IB]? = some (.cells cs1 27 (0, 0))) (hcX2 : X.heap[CB]? = some (.cells cs2 3 (0, 0)))
    (A : Option Addr) (cp : Nat) (hvX : Boxed X O 24 (.slice A 0 cp)) (hrX : X.ownsRow B0 38 2 (.slice A 0 cp) 0 (flat (pieces slot pre))) (hk : pieces slot pre = []) (hQ : ∀ a' Y, Post9 B0 O IB CB slot pre x X Y → Q .normal a' Y) :
    Code.wpIn (Fence.wide.inRound l) (4 - 1 - 1) Try.prog rest9 (Exit.inBlock 1 Q) { tmps := #[t0, t1, t2, t3, t4, .pointer (some ⟨O, 0, none⟩), t6, .int .i64 (slot x), .int .i64 (-1), t9, t10, t11, t12, t13, t14, t15, t16, t17, t18, t19, t20, t21, t22, t23, t24, t25, t26, t27, t28, t29, t30, t31, t32, t33, t34, t35, t36, t37, t38, t39, t40, t41, t42, t43, t44, t45, t46, t47, t48, t49, t50, t51, t52, t53, t54, t55, t56], defers := [] } X := by
  obtain ⟨i0, hi, hz0, hz1, hz2⟩ := info_parts info38
  have hcX := hvX.cell
  have hfX := hvX.frozen
  show Code.wpIn _ _ _ ?_ _ _ _
  conv => arg 4; whnf
  gi_wp2_with (gi_at_builtin; refine wpListIn_append_own _ rfl _ _ 24 rfl B0 38 i0 (.agg #[.int .i64 0, .int .i64 0]) 2 16 Try.underlying24 hi hz0 hz1 hz2 rfl (by decide) _ _ _ rfl (hrX.alloc _) ⟨X.heap.size, 0, none⟩ 1 1 [.int .i64 (slot x), .int .i64 1] rfl rfl (cell_two_new _ _ _ _) (by simp [Value.oneCell']) (by unfold maxLen; omega) (by omega) (by simp; omega) ?_; intro v' w1 hown' hgrow _; obtain ⟨g', cap', rfl⟩ := ownsRow_succ hown'; obtain ⟨hv1, hv2, hr2, hk3, hb3⟩ := hvX.appended (by decide) hrX hBX hle hown' hgrow; have hc1 := hv1.cell; have hf1 := hv1.frozen)
  exact ⟨_, _, _, by rw [pieces_new _ _ _ (.inl hk)]; simp [hk], hv2, by rw [pieces_new _ _ _ (.inl hk), ← flat_snoc]; simpa using hr2, hk3, hb3, app_keeps _ hrX hgrow hBnX (by decide) hIB, app_keeps _ hrX hgrow hcX2 (by decide) hCB⟩
set_option maxRecDepth 100000 in
set_option maxHeartbeats 2000000 in
theorem fin9b (l : Nat) (B0 O IB CB : Nat) (slot : Int → Int) (pre : List Int) (x : Int) (X : World) (cs1 cs2 : Array Value) (Q : Exit → Act → World → Prop) (t0 t1 t2 t3 t4 t6 t9 t10 t11 t12 t13 t14 t15 t16 t17 t18 t19 t20 t21 t22 t23 t24 t25 t26 t27 t28 t29 t30 t31 t32 t33 t34 t35 t36 t37 t38 t39 t40 t41 t42 t43 t44 t45 t46 t47 t48 t49 t50 t51 t52 t53 t54 t55 t56 : Value)
    (hBX : B0 ≤ X.heap.size) (hle : B0 ≤ O) (hIB : IB ≠ O) (hCB : CB ≠ O) (hBnX : X.heap[IB]? = some (.cells cs1 27 (0, 0))) (hcX2 : X.heap[CB]? = some (.cells cs2 3 (0, 0)))
    (A : Option Addr) (k cp : Nat) (hk2 : k < 1073741824) (hk0 : 0 < k) (hvX : Boxed X O 24 (.slice A k cp)) (hrX : X.ownsRow B0 38 2 (.slice A k cp) k (flat (pieces slot pre))) (hk : (pieces slot pre).length = k) (hs0 : slot x = 0) (hQ : ∀ a' Y, Post9 B0 O IB CB slot pre x X Y → Q .normal a' Y) :
    Code.wpIn (Fence.wide.inRound l) (4 - 1 - 1) Try.prog rest9 (Exit.inBlock 1 Q) { tmps := #[t0, t1, t2, t3, t4, .pointer (some ⟨O, 0, none⟩), t6, .int .i64 0, .int .i64 ((k - 1 : Nat) : Int), t9, t10, t11, t12, t13, t14, t15, t16, t17, t18, t19, t20, t21, t22, t23, t24, t25, t26, t27, t28, t29, t30, t31, t32, t33, t34, t35, t36, t37, t38, t39, t40, t41, t42, t43, t44, t45, t46, t47, t48, t49, t50, t51, t52, t53, t54, t55, t56], defers := [] } X := by
  obtain ⟨i0, hi, hz0, hz1, hz2⟩ := info_parts info38
  have hcX := hvX.cell
  have hfX := hvX.frozen
  show Code.wpIn _ _ _ ?_ _ _ _
  conv => arg 4; whnf
  gi_wp2_with (gi_at_builtin; refine wpListIn_append_own _ rfl _ _ 24 rfl B0 38 i0 (.agg #[.int .i64 0, .int .i64 0]) 2 16 Try.underlying24 hi hz0 hz1 hz2 rfl (by decide) _ _ _ rfl (hrX.alloc _) ⟨X.heap.size, 0, none⟩ 1 1 [.int .i64 0, .int .i64 1] rfl rfl (cell_two_new _ _ _ _) (by simp [Value.oneCell']) (by unfold maxLen; omega) (by omega) (by simp; omega) ?_; intro v' w1 hown' hgrow _; obtain ⟨g', cap', rfl⟩ := ownsRow_succ hown'; obtain ⟨hv1, hv2, hr2, hk3, hb3⟩ := hvX.appended (by decide) hrX hBX hle hown' hgrow; have hc1 := hv1.cell; have hf1 := hv1.frozen)
  rw [← hs0] at hr2
  exact ⟨_, _, _, by rw [pieces_new _ _ _ (.inr hs0)]; simp [hk], hv2, by rw [pieces_new _ _ _ (.inr hs0), ← flat_snoc]; simpa using hr2, hk3, hb3, app_keeps _ hrX hgrow hBnX (by decide) hIB, app_keeps _ hrX hgrow hcX2 (by decide) hCB⟩
set_option maxRecDepth 100000 in
set_option maxHeartbeats 2000000 in
theorem fin9c (l : Nat) (B0 O IB CB : Nat) (slot : Int → Int) (pre : List Int) (x : Int) (X : World) (cs1 cs2 : Array Value) (Q : Exit → Act → World → Prop) (t0 t1 t2 t3 t4 t6 t9 t10 t11 t12 t13 t14 t15 t16 t17 t18 t19 t20 t21 t22 t23 t24 t25 t26 t27 t28 t29 t30 t31 t32 t33 t34 t35 t36 t37 t38 t39 t40 t41 t42 t43 t44 t45 t46 t47 t48 t49 t50 t51 t52 t53 t54 t55 t56 : Value)
    (hBX : B0 ≤ X.heap.size) (hle : B0 ≤ O) (hIB : IB ≠ O) (hCB : CB ≠ O) (hBnX : X.heap[IB]? = some (.cells cs1 27 (0, 0))) (hcX2 : X.heap[CB]? = some (.cells cs2 3 (0, 0)))
    (g cp : Nat) (ini : List (Int × Int)) (y0 z0 sx : Int) (hk2 : ini.length < 1073741824) (hini : pieces slot pre = ini ++ [(y0, z0)]) (hvX : Boxed X O 24 (.slice (some ⟨g, 0, none⟩) (ini.length + 1) cp)) (hrX : X.ownsRow B0 38 2 (.slice (some ⟨g, 0, none⟩) (ini.length + 1) cp) (ini.length + 1) (flat (pieces slot pre))) (hsx : slot x = sx) (hs0 : sx ≠ 0) (hQ : ∀ a' Y, Post9 B0 O IB CB slot pre x X Y → Q .normal a' Y) :
    Code.wpIn (Fence.wide.inRound l) (4 - 1 - 1) Try.prog rest9 (Exit.inBlock 1 Q) { tmps := #[t0, t1, t2, t3, t4, .pointer (some ⟨O, 0, none⟩), t6, .int .i64 sx, .int .i64 (ini.length : Nat), t9, t10, t11, t12, t13, t14, t15, t16, t17, t18, t19, t20, t21, t22, t23, t24, t25, t26, t27, t28, t29, t30, t31, t32, t33, t34, t35, t36, t37, t38, t39, t40, t41, t42, t43, t44, t45, t46, t47, t48, t49, t50, t51, t52, t53, t54, t55, t56], defers := [] } X := by
  have hflat : flat (pieces slot pre) = flat ini ++ [.int .i64 y0, .int .i64 z0] := by rw [hini, flat_snoc]
  have hcell := hrX.cellAt (ini.length * 2 + 1) (by omega)
  rw [hflat, List.getElem?_append_right (by rw [flat_len]; omega), flat_len, show ini.length * 2 + 1 - ini.length * 2 = 1 by omega] at hcell
  have hcell : X.cell? ⟨g, ini.length * 2 + 1, none⟩ = some (.int .i64 z0) := hcell
  have hfr := hrX.frozenAt (ini.length * 2 + 1)
  have hmx : Try.prog.follows .mixedOrders = true := by kernel_rfl
  have hgb : B0 ≤ g := by
    rcases hrX.2 with ⟨h, _⟩ | ⟨g', _, _, h, hb, _⟩
    · simp at h
    · simp at h
      omega
  obtain ⟨st1, st2⟩ := hrX.stored (ini.length * 2 + 1) (.int .i64 (IntKind.i64.wrap (z0 + 1)))
  have hpm := pieces_mod slot pre x ini y0 z0 hini (by rw [hsx]; exact hs0)
  have hfl : (flat (pieces slot pre)).set (ini.length * 2 + 1) (.int .i64 (IntKind.i64.wrap (z0 + 1))) = flat (pieces slot (pre ++ [x])) := by
    rw [hflat, hpm, ← flat_snoc, List.set_append_right _ _ (by rw [flat_len]; omega), flat_len, show ini.length * 2 + 1 - ini.length * 2 = 1 by omega, show IntKind.i64.wrap (z0 + 1) = wrap64 (z0 + 1) by rw [IntKind.wrap_i64]; unfold wrap64; omega]
    rfl
  rw [hfl] at st1
  have hmod : Post9 B0 O IB CB slot pre x X (X.setCell ⟨g, ini.length * 2 + 1, none⟩ (.int .i64 (IntKind.i64.wrap (z0 + 1)))).drew := ⟨g, cp, ini.length + 1, by rw [hpm]; simp,
    (show Boxed (X.setCell ⟨g, ini.length * 2 + 1, none⟩ _) _ _ _ from hvX.kept st2 (hvX.not_row (by decide) hrX)), (ownsRow_below st1 (Below.refl _ _).drew),
    ((KeepsOthers.setCell _ _ _).trans (KeepsOthers.drew _)), (((Below.refl _ X).setCell (p := ⟨g, ini.length * 2 + 1, none⟩) hgb _).drew),
    (Below.heap_setCell X ⟨g, ini.length * 2 + 1, none⟩ _ _ (row_other hrX hBnX (by decide))), (Below.heap_setCell X ⟨g, ini.length * 2 + 1, none⟩ _ _ (row_other hrX hcX2 (by decide)))⟩
  clear hfl st1 st2 hpm hflat
  obtain ⟨i0, hi, hz0, hz1, hz2⟩ := info_parts info38
  have hcX := hvX.cell
  have hfX := hvX.frozen
  show Code.wpIn _ _ _ ?_ _ _ _
  conv => arg 4; whnf
  gi_wp2
  gi_region_with_o (fail)
  all_goals gi_wp2
  all_goals first | exact hmod | exact hQ _ _ hmod
set_option maxRecDepth 100000 in
set_option maxHeartbeats 4000000 in
theorem pieces9 (a n cap : Int) (ha : 0 ≤ a ∧ a < 4294967296) (hn : 1 ≤ n ∧ n ≤ 1073741824) (hc : n ≤ cap) (hr : lap_Right.f cap = some true) (w : World) :
    Calls Try.prog 9 #[.agg #[.int .u32 a, .int .i64 n], .int .i64 cap] w fun e w' => ∃ v, e = .returned v ∧ w'.ownsRow w.heap.size 38 2 v (pieces (slot32 cap) (poss32 a n)).length (flat (pieces (slot32 cap) (poss32 a n))) ∧ Below w.heap.size w w' := by
  have hu27 := Try.underlying27
  obtain ⟨i0, hi, hz0, hz1, hz2⟩ := info_parts info38
  have hright : span_Span_uint32_Right.f a n = some true := by
    unfold span_Span_uint32_Right.f
    rw [if_pos (by omega), decide_eq_true (by omega)]
  refine (callsIn_wide (n := 4)).1 ?_
  refine callsIn_of_wp_marks Try.func9 rfl trivial ?_ rfl
  simp only [Try.ntmps9, List.size_toArray, List.length_cons, List.length_nil, Nat.reduceAdd, Nat.reduceSub, Array.replicate_succ, Array.replicate_zero, List.push_toArray, List.append_toArray, List.nil_append, List.cons_append]
  have hdec : decide (n > cap) = false := decide_eq_false (by omega)
  have hdec0 : (n == 0) = false := by simp; omega
  have hA : ((w.alloc (.cells #[.int .u32 a, .int .i64 n] 27)).alloc (.cells #[.int .i64 cap] 3)).heap[w.heap.size]? = some (.cells #[.int .u32 a, .int .i64 n] 27 (0, 0)) := (Below.heap_alloc _ _ _ (by simp)).trans (World.alloc_heap_new w _)
  have hB : ((w.alloc (.cells #[.int .u32 a, .int .i64 n] 27)).alloc (.cells #[.int .i64 cap] 3)).heap[w.heap.size + 1]? = some (.cells #[.int .i64 cap] 3 (0, 0)) := by
    have := World.alloc_heap_new (w.alloc (.cells #[.int .u32 a, .int .i64 n] 27)) (.cells #[.int .i64 cap] 3)
    rwa [World.size_alloc] at this
  have hBel : Below w.heap.size w ((w.alloc (.cells #[.int .u32 a, .int .i64 n] 27)).alloc (.cells #[.int .i64 cap] 3)) := ((Below.refl _ w).alloc (Nat.le_refl _) _).alloc (by simp) _
  have cc : ∀ X : World, X.heap[w.heap.size]? = some (.cells #[.int .u32 a, .int .i64 n] 27 (0, 0)) → X.cell? ⟨w.heap.size, 0, none⟩ = some (.int .u32 a) ∧ X.cell? ⟨w.heap.size, 1, none⟩ = some (.int .i64 n) := fun X h => ⟨by simp [World.cell?, h], by simp [World.cell?, h]⟩
  have cd : ∀ X : World, X.heap[w.heap.size + 1]? = some (.cells #[.int .i64 cap] 3 (0, 0)) → X.cell? ⟨w.heap.size + 1, 0, none⟩ = some (.int .i64 cap) := fun X h => by simp [World.cell?, h]
  gi_wp2_with (first
    | (refine ⟨trivial, ?_⟩; gi_at_call 29; refine (callsIn_wide.2 (span_Span_uint32_Right.calls a n true _ hright)).mono ?_; rintro e W1 ⟨rfl, hb1⟩; have k0 := (hb1.block w.heap.size (by simp; omega)).trans hA; have k1 := (hb1.block (w.heap.size + 1) (by simp)).trans hB; obtain ⟨f0, f1⟩ := cc W1 k0; have f2 := cd W1 k1)
    | (refine ⟨trivial, ?_⟩; gi_at_call 36; refine (callsIn_wide.2 (lap_Right.calls cap true _ hr)).mono ?_; rintro e W2 ⟨rfl, hb2⟩; have hs1 : w.heap.size + 1 < W1.heap.size := (Array.getElem?_eq_some_iff.1 k1).1; have m0 := (hb2.below.block w.heap.size (by omega)).trans k0; have m1 := (hb2.below.block (w.heap.size + 1) (by omega)).trans k1; obtain ⟨z0, z1⟩ := cc W2 m0; have z2 := cd W2 m1; have hs2 : w.heap.size + 1 < W2.heap.size := (Array.getElem?_eq_some_iff.1 m1).1; obtain ⟨g0, g1⟩ := cc _ ((Below.heap_alloc W2 (.cells #[.slice none 0 0] 24) w.heap.size (by omega)).trans m0))
    | (refine ⟨trivial, ?_⟩; gi_at_call 37; refine (all37 a n _ _).mono ?_; rintro e W3 ⟨rfl, rfl⟩))
  obtain ⟨W3, hW3⟩ : ∃ W3, W2.alloc (.cells #[.slice none 0 0] 24) = W3 := ⟨_, rfl⟩
  have hs3 : W3.heap.size = W2.heap.size + 1 := by rw [← hW3]; simp
  rw [hW3] at g0 g1 ⊢
  have bO : Boxed W3 W2.heap.size 24 (.slice none 0 0) := by rw [← hW3]; exact Boxed.new W2 24 _
  have bC : Boxed W3 (w.heap.size + 1) 3 (.int .i64 cap) := by rw [← hW3]; exact Boxed.alloc (show Boxed W2 _ 3 _ from m1) _
  have hBW3 : Below w.heap.size w W3 := by
    rw [← hW3]
    exact ((hBel.trans (hb1.mono (by simp; omega))).trans (hb2.below.mono (by omega))).alloc (by omega) _
  have bN : (W3.alloc (.cells #[.int .u32 a, .int .i64 n] 27)).heap[W3.heap.size]? = some (.cells #[.int .u32 a, .int .i64 n] 27 (0, 0)) := World.alloc_heap_new W3 _
  rw [hs3] at bN
  refine wpIn_rangeFunc_ownG rfl (by omega) (gf := 48) (lb := #[.pointer (some ⟨(W2.heap.size + 1), 0, none⟩)]) rfl trivial (enters_of Try.func48 (by kernel_rfl) rfl)
    (all_stops (W2.heap.size + 1) a n ha (by omega) _ bN) KB_t (KB_b (by simp; omega)) (Below.refl _ _) (fun _ => rfl)
    (fun pre W => (∃ v, Boxed W W2.heap.size 24 v ∧ W.ownsRow w.heap.size 38 2 v (pieces (slot32 cap) pre).length (flat (pieces (slot32 cap) pre)) ∧ True) ∧ Boxed W (w.heap.size + 1) 3 (.int .i64 cap) ∧ Below w.heap.size w W ∧ W.heap[(W2.heap.size + 1)]? = some (.cells #[.int .u32 a, .int .i64 n] 27 (0, 0)))
    (fun _ _ _ => False)
    ?own
    (fun _ _ _ _ _ hs _ _ => hs)
    ⟨⟨_, bO.alloc _, World.ownsRow_nil _ _ _ _, trivial⟩, bC.alloc _, hBW3.alloc (by omega) _, bN⟩
    (fun x => { tmps := #[.agg #[.int .u32 a, .int .i64 n], .int .i64 cap, .pointer (some ⟨w.heap.size, 0, none⟩), .pointer (some ⟨w.heap.size + 1, 0, none⟩), .slice none 0 0, .pointer (some ⟨W2.heap.size, 0, none⟩), .int .u32 x, undef, undef,
      .agg #[.int .u32 a, .int .i64 n], .bool true, .bool false, .bool false, .int .i64 cap, .bool true, .bool false, .bool false, .bool false, .pointer (some ⟨w.heap.size, 1, none⟩), .int .i64 n, .bool false, .bool false, .bool false, .pointer (some ⟨w.heap.size, 1, none⟩),
      .int .i64 n, .int .i64 cap, .bool false, .bool false, .agg #[.int .u32 a, .int .i64 n], .func (.func 48) #[] #[.pointer (some ⟨W2.heap.size + 1, 0, none⟩)], .int .u32 x, undef, undef, undef, undef, undef, undef, undef, undef, undef, undef, undef, undef,
      undef, undef, undef, undef, undef, undef, undef, undef, undef, undef, undef, undef, undef, undef], defers := [] }) ?assign ?body ?done ?stop
  case assign =>
    intro l x W K hK
    gi_wp2
    exact hK
  case body =>
    rintro l pre x W ⟨⟨v, hv, hrow, _⟩, hcap, hBW, hBn⟩ hlt
    have hc0 := hv.cell
    have hc1 := hcap.cell
    have hslot : lap_Slot_uint32.f cap x = some (slot32 cap x) := by
      unfold lap_Slot_uint32.f
      rw [hr]
      rfl
    have hmx : Try.prog.follows .mixedOrders = true := by kernel_rfl
    obtain ⟨k, hk⟩ : ∃ k, (pieces (slot32 cap) pre).length = k := ⟨_, rfl⟩
    rw [hk] at hrow
    have hkn : k ≤ pre.length := by rw [← hk]; exact pieces_len _ _
    obtain ⟨A, cp, rfl⟩ : ∃ A cp, v = .slice A k cp := by
      rcases hrow.2 with ⟨rfl, rfl⟩ | ⟨g, cp, cur, rfl, _⟩ <;> exact ⟨_, _, rfl⟩
    gi_wp2
    rename_i K hK
    have hfin : ∀ m : Nat, K { tmps := #[.agg #[.int .u32 a, .int .i64 n], .int .i64 cap, .pointer (some ⟨w.heap.size, 0, none⟩), .pointer (some ⟨w.heap.size + 1, 0, none⟩), .slice none 0 0, .pointer (some ⟨W2.heap.size, 0, none⟩), .int .u32 x, .int .i64 (slot32 cap x), .int .i64 (IntKind.i64.wrap ((k : Int) - 1)),
      .agg #[.int .u32 a, .int .i64 n], .bool true, .bool false, .bool false, .int .i64 cap, .bool true, .bool false, .bool false, .bool false, .pointer (some ⟨w.heap.size, 1, none⟩), .int .i64 n, .bool false, .bool false, .bool false, .pointer (some ⟨w.heap.size, 1, none⟩),
      .int .i64 n, .int .i64 cap, .bool false, .bool false, .agg #[.int .u32 a, .int .i64 n], .func (.func 48) #[] #[.pointer (some ⟨W2.heap.size + 1, 0, none⟩)], .int .u32 x, .int .i64 cap, .int .u32 x, .int .i64 (slot32 cap x), .slice A k cp, .int .i64 k, .int .i64 (IntKind.i64.wrap ((k : Int) - 1)), undef, undef, undef, undef, undef, undef,
      undef, undef, undef, undef, undef, undef, undef, undef, undef, undef, undef, undef, undef, undef], defers := [] } (W.drewN m) := by
      intro m
      refine hK _ _ ?_
      have hd : Below W.heap.size W (W.drewN m) := (Drawn0.mk ⟨m, rfl⟩ : Drawn0 W (W.drewN m)).below
      have hkd : KeepsOthers W (W.drewN m) := KeepsOthers.of_grownBy (grown_of_below hd) (fun j o e => by cases e)
      obtain ⟨X, hX⟩ : ∃ X, W.drewN m = X := ⟨_, rfl⟩
      rw [hX] at hd hkd ⊢
      have hvX : Boxed X W2.heap.size 24 (.slice A k cp) := (hd.block _ hv.lt).trans hv
      have hrX := ownsRow_below hrow hd
      have hcX := hvX.cell
      have hsX : W.heap.size ≤ X.heap.size := hd.size
      have hBX : Below w.heap.size w X := hBW.trans (hd.mono hBW.size)
      have hfX := hvX.frozen
      have hk2 : k < 1073741824 := by omega
      have hle : w.heap.size ≤ W2.heap.size := by omega
      have hBnX : X.heap[W2.heap.size + 1]? = some (.cells #[.int .u32 a, .int .i64 n] 27 (0, 0)) := (hd.block _ (Array.getElem?_eq_some_iff.1 hBn).1).trans hBn
      have hcX2 : X.heap[w.heap.size + 1]? = some (.cells #[.int .i64 cap] 3 (0, 0)) := (hd.block _ hcap.lt).trans hcap
      have hend : ∀ (Y : World), Post9 w.heap.size W2.heap.size (W2.heap.size + 1) (w.heap.size + 1) (slot32 cap) pre x X Y → 
          KeepsFrom (W3.alloc (.cells #[.int .u32 a, .int .i64 n] 27)).heap.size W Y ∧ KB (W2.heap.size + 1) W Y ∧ (∃ v, Boxed Y W2.heap.size 24 v ∧ Y.ownsRow w.heap.size 38 2 v (pieces (slot32 cap) (pre ++ [x])).length (flat (pieces (slot32 cap) (pre ++ [x]))) ∧ True) ∧ Boxed Y (w.heap.size + 1) 3 (.int .i64 cap) ∧ Below w.heap.size w Y ∧ Y.heap[W2.heap.size + 1]? = some (.cells #[.int .u32 a, .int .i64 n] 27 (0, 0)) := by
        rintro Y ⟨g, c, m, hm, h1, h2, h3, h4, h5, h6⟩
        subst hm
        exact ⟨(hkd.trans h3).from _, (h5.trans hBnX).trans hBn.symm, ⟨_, h1, h2, trivial⟩, h6.trans hcX2, hBX.trans h4, h5.trans hBnX⟩
      by_cases hk0 : k = 0
      · subst hk0
        have hw : IntKind.i64.wrap (((0 : Nat) : Int) - 1) = -1 := by decide
        rw [hw]
        have hnil := List.length_eq_zero_iff.1 hk
        exact fin9a _ _ _ _ _ (slot32 cap) pre x X _ _ _ _ _ _ _ _ _ _ _ _ _ _ _ _ _ _ _ _ _ _ _ _ _ _ _ _ _ _ _ _ _ _ _ _ _ _ _ _ _ _ _ _ _ _ _ _ _ _ _ _ _ _ _ _ _ hBX.size hle (by omega) (by omega) hBnX hcX2 A cp hvX hrX hnil (fun _ => hend)
      · have hw : IntKind.i64.wrap ((k : Int) - 1) = ((k - 1 : Nat) : Int) := by
          rw [IntKind.wrap_i64]; omega
        rw [hw]
        by_cases hs0 : slot32 cap x = 0
        · have hs1 := hs0
          rw [hs0]
          exact fin9b _ _ _ _ _ (slot32 cap) pre x X _ _ _ _ _ _ _ _ _ _ _ _ _ _ _ _ _ _ _ _ _ _ _ _ _ _ _ _ _ _ _ _ _ _ _ _ _ _ _ _ _ _ _ _ _ _ _ _ _ _ _ _ _ _ _ _ _ hBX.size hle (by omega) (by omega) hBnX hcX2 A k cp hk2 (by omega) hvX hrX hk hs1 (fun _ => hend)
        · obtain ⟨g, rfl⟩ : ∃ g, A = some ⟨g, 0, none⟩ := by
            rcases hrX.2 with ⟨_, h0⟩ | ⟨g, _, _, h1, _⟩
            · exact absurd h0 hk0
            · simp at h1
              exact ⟨g, h1.1⟩
          rcases List.eq_nil_or_concat (pieces (slot32 cap) pre) with hnil | ⟨ini, ⟨y0, z0⟩, hini⟩
          · rw [hnil] at hk
            exact absurd hk.symm hk0
          · rw [List.concat_eq_append] at hini
            have hki : k = ini.length + 1 := by rw [← hk, hini]; simp
            subst hki
            exact fin9c _ _ _ _ _ (slot32 cap) pre x X _ _ _ _ _ _ _ _ _ _ _ _ _ _ _ _ _ _ _ _ _ _ _ _ _ _ _ _ _ _ _ _ _ _ _ _ _ _ _ _ _ _ _ _ _ _ _ _ _ _ _ _ _ _ _ _ _ hBX.size hle (by omega) (by omega) hBnX hcX2 g cp ini y0 z0 _ (by omega) hini hvX hrX rfl hs0 (fun _ => hend)
    gi_region_with_o (refine ⟨trivial, ?_⟩; gi_at_call 38; refine (CallsIn.inRound l (callsIn_wide.2 (lap_Slot_uint32.calls cap x _ _ hslot))).mono ?_; rintro e W' ⟨rfl, ⟨⟨m, rfl⟩⟩⟩)
    all_goals exact hfin _
  case own =>
    refine OwnFrom.and (Own.from (holdsRow_own _ _ _ _ _ _ _ _) _) (OwnFrom.and (Own.from (boxed_own _ _ _) _) (OwnFrom.and (ownFrom_below (Nat.le_refl _) (by simp; omega)) ?_))
    exact fun s X Y row hs hg hr => (hg.block _ (Array.getElem?_eq_some_iff.1 hs).1 (fun e => by have := (hr _ e.symm).1; simp at this; omega)).trans hs
  case done =>
    rintro D ys W hD rfl ⟨⟨v, hv, hrow, _⟩, hcap, hBW, hBn⟩ hK
    have hc0 := hv.cell
    gi_wp2
    refine ⟨by simp, .inl ⟨_, _, rfl, run_takeDeferred hK, ?_⟩⟩
    exact ⟨_, results_tmp rfl _ _ _, _, rfl, ownsRow_putObj hrow _ hK rfl, hBW.trans (belowK_b (w := w) (Nat.le_refl _) W D _ _ (by simp at hD; omega) hK rfl rfl)⟩
  case stop =>
    rintro D c pre W _ _ h
    exact h.elim
def pc32 (a n cap : Int) : List (Int × Int) := if 1 ≤ n ∧ n ≤ 1073741824 ∧ n ≤ cap ∧ lap_Right.f cap = some true then pieces (slot32 cap) (poss32 a n) else []
set_option maxHeartbeats 4000000 in
theorem none9 (a n cap : Int) (h : ¬ (1 ≤ n ∧ n ≤ 1073741824 ∧ n ≤ cap ∧ lap_Right.f cap = some true)) (w : World) :
    Calls Try.prog 9 #[.agg #[.int .u32 a, .int .i64 n], .int .i64 cap] w fun e w' => e = .returned (.slice none 0 0) ∧ Below w.heap.size w w' := by
  have hu27 := Try.underlying27
  have hA : ((w.alloc (.cells #[.int .u32 a, .int .i64 n] 27)).alloc (.cells #[.int .i64 cap] 3)).heap[w.heap.size]? = some (.cells #[.int .u32 a, .int .i64 n] 27 (0, 0)) := (Below.heap_alloc _ _ _ (by simp)).trans (World.alloc_heap_new w _)
  have hB : ((w.alloc (.cells #[.int .u32 a, .int .i64 n] 27)).alloc (.cells #[.int .i64 cap] 3)).heap[w.heap.size + 1]? = some (.cells #[.int .i64 cap] 3 (0, 0)) := by
    have := World.alloc_heap_new (w.alloc (.cells #[.int .u32 a, .int .i64 n] 27)) (.cells #[.int .i64 cap] 3)
    rwa [World.size_alloc] at this
  have hBel : Below w.heap.size w ((w.alloc (.cells #[.int .u32 a, .int .i64 n] 27)).alloc (.cells #[.int .i64 cap] 3)) := ((Below.refl _ w).alloc (Nat.le_refl _) _).alloc (by simp) _
  have cc : ∀ X : World, X.heap[w.heap.size]? = some (.cells #[.int .u32 a, .int .i64 n] 27 (0, 0)) → X.cell? ⟨w.heap.size, 0, none⟩ = some (.int .u32 a) ∧ X.cell? ⟨w.heap.size, 1, none⟩ = some (.int .i64 n) := fun X h => ⟨by simp [World.cell?, h], by simp [World.cell?, h]⟩
  have cd : ∀ X : World, X.heap[w.heap.size + 1]? = some (.cells #[.int .i64 cap] 3 (0, 0)) → X.cell? ⟨w.heap.size + 1, 0, none⟩ = some (.int .i64 cap) := fun X h => by simp [World.cell?, h]
  by_cases h1 : 0 ≤ n ∧ n ≤ 1073741824
  · have hright : span_Span_uint32_Right.f a n = some true := by
      unfold span_Span_uint32_Right.f
      rw [if_pos (by omega), decide_eq_true (by omega)]
    obtain ⟨b, hb⟩ : ∃ b, lap_Right.f cap = some b := by
      unfold lap_Right.f
      split
      · split <;> exact ⟨_, rfl⟩
      · exact ⟨_, rfl⟩
    cases b with
    | false =>
      go_enter Try.func9, Try.ntmps9
      go_wp2_with (first
        | (go_at_call 29; refine (span_Span_uint32_Right.calls a n true _ hright).mono ?_; rintro e W1 ⟨rfl, hb1⟩; have k0 := (hb1.block w.heap.size (by simp; omega)).trans hA; have k1 := (hb1.block (w.heap.size + 1) (by simp)).trans hB; obtain ⟨f0, f1⟩ := cc W1 k0; have f2 := cd W1 k1)
        | (go_at_call 36; refine (lap_Right.calls cap false _ hb).mono ?_; rintro e W2 ⟨rfl, hb2⟩; have hs1 : w.heap.size + 1 < W1.heap.size := (Array.getElem?_eq_some_iff.1 k1).1; have m0 := (hb2.below.block w.heap.size (by omega)).trans k0; have m1 := (hb2.below.block (w.heap.size + 1) (by omega)).trans k1; obtain ⟨z0, z1⟩ := cc W2 m0; have z2 := cd W2 m1))
      go_ret
      exact ⟨rfl, (hBel.trans (hb1.mono (by simp; omega))).trans (hb2.below.mono (by omega))⟩
    | true =>
      have h2 : n = 0 ∨ (n ≠ 0 ∧ cap < n) := by
        rcases Classical.em (n = 0) with e | e
        · exact .inl e
        · exact .inr ⟨e, Int.lt_of_not_ge fun h3 => h ⟨by omega, h1.2, h3, hb⟩⟩
      clear h
      rcases h2 with rfl | ⟨h2, h3⟩
      · go_enter Try.func9, Try.ntmps9
        go_wp2_with (first
          | (go_at_call 29; refine (span_Span_uint32_Right.calls a 0 true _ hright).mono ?_; rintro e W1 ⟨rfl, hb1⟩; have k0 := (hb1.block w.heap.size (by simp; omega)).trans hA; have k1 := (hb1.block (w.heap.size + 1) (by simp)).trans hB; obtain ⟨f0, f1⟩ := cc W1 k0; have f2 := cd W1 k1)
          | (go_at_call 36; refine (lap_Right.calls cap true _ hb).mono ?_; rintro e W2 ⟨rfl, hb2⟩; have hs1 : w.heap.size + 1 < W1.heap.size := (Array.getElem?_eq_some_iff.1 k1).1; have m0 := (hb2.below.block w.heap.size (by omega)).trans k0; have m1 := (hb2.below.block (w.heap.size + 1) (by omega)).trans k1; obtain ⟨z0, z1⟩ := cc W2 m0; have z2 := cd W2 m1))
        go_ret
        exact ⟨rfl, (hBel.trans (hb1.mono (by simp; omega))).trans (hb2.below.mono (by omega))⟩
      · have hdec : decide (n > cap) = true := decide_eq_true h3
        have hdec0 : (n == 0) = false := by simp; omega
        clear h3 h2
        go_enter Try.func9, Try.ntmps9
        go_wp2_with (first
          | (go_at_call 29; refine (span_Span_uint32_Right.calls a n true _ hright).mono ?_; rintro e W1 ⟨rfl, hb1⟩; have k0 := (hb1.block w.heap.size (by simp; omega)).trans hA; have k1 := (hb1.block (w.heap.size + 1) (by simp)).trans hB; obtain ⟨f0, f1⟩ := cc W1 k0; have f2 := cd W1 k1)
          | (go_at_call 36; refine (lap_Right.calls cap true _ hb).mono ?_; rintro e W2 ⟨rfl, hb2⟩; have hs1 : w.heap.size + 1 < W1.heap.size := (Array.getElem?_eq_some_iff.1 k1).1; have m0 := (hb2.below.block w.heap.size (by omega)).trans k0; have m1 := (hb2.below.block (w.heap.size + 1) (by omega)).trans k1; obtain ⟨z0, z1⟩ := cc W2 m0; have z2 := cd W2 m1))
        go_ret
        exact ⟨rfl, (hBel.trans (hb1.mono (by simp; omega))).trans (hb2.below.mono (by omega))⟩
  · have hright : span_Span_uint32_Right.f a n = some false := by
      unfold span_Span_uint32_Right.f
      split
      · rw [decide_eq_false (by omega)]
      · rfl
    clear h h1
    go_enter Try.func9, Try.ntmps9
    go_wp2_with (go_at_call 29; refine (span_Span_uint32_Right.calls a n false _ hright).mono ?_; rintro e W1 ⟨rfl, hb1⟩)
    go_ret
    exact ⟨rfl, hBel.trans (hb1.mono (by simp; omega))⟩
theorem pc32_calls (a n cap : Int) (ha : 0 ≤ a ∧ a < 4294967296) (w : World) :
    Calls Try.prog 9 #[.agg #[.int .u32 a, .int .i64 n], .int .i64 cap] w fun e w' => ∃ v, e = .returned v ∧ w'.ownsRow w.heap.size 38 2 v (pc32 a n cap).length (flat (pc32 a n cap)) ∧ Below w.heap.size w w' := by
  unfold pc32
  by_cases h : 1 ≤ n ∧ n ≤ 1073741824 ∧ n ≤ cap ∧ lap_Right.f cap = some true
  · rw [if_pos h]
    exact pieces9 a n cap ha ⟨h.1, h.2.1⟩ h.2.2.1 h.2.2.2 w
  · rw [if_neg h]
    refine (none9 a n cap h w).mono ?_
    rintro e w' ⟨rfl, hb⟩
    exact ⟨_, rfl, World.ownsRow_nil _ _ _ _, hb⟩

end Go.Proofs.Ytbgbhoidchdjmaa.Pieces
