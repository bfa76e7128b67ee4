-- Written for this claim by a program of this session.
import Derived.Test.YtlhodmhmbcdieaaQPairRawx0
namespace Go.Proofs.Ytlhodmhmbcdieaa.QPairRaw
open Go.RowKit Go.Proofs.YtlhodmhmbcdieaaW.PrintWords Go.Proofs.YtlhodmhmbcdieaaW.PrintLast Go.Proofs.YtlhodmhmbcdieaaW.PrintMore
attribute [local go_sem] max2_int min2_int max_two min_two max_three min_three max_four min_four   -- for this text's walks alone
set_option linter.unusedVariables false
set_option linter.unusedSimpArgs false

-- NOT PRINTED: function 26 (pair_within)

/-! ### pair_Whole: function 16 -/
def pair_Whole.f (a0 : Cx) : Option Bool := (Pair.dec a0).bind fun p => some true
theorem pair_Whole.calls (a0 : Cx) (r : Bool) (w : World) (h : pair_Whole.f a0 = some r) :
    Calls Try.prog 16 #[Cx.v a0] w fun e w' => e = .returned (.bool r) ∧ Drawn0 w w' := by
  unfold pair_Whole.f at h
  obtain ⟨p, hp, h2⟩ := Option.bind_eq_some_iff.1 h
  clear h
  have h := h2
  clear h2
  obtain ⟨e, hh, c1, c2⟩ := Pair.dec_some hp
  subst e
  obtain rfl := Option.some.inj h
  have := Pair.whole_v _ p.1 p.2 true hh (by simp [c1, c2]) w
  refine this.mono ?_
  rintro e w' ⟨rfl, rfl⟩
  exact ⟨rfl, Drawn0.refl _⟩

/-! ### pair_count: function 25 -/
def pair_count.f (a0 : Int) : Option (Bool) := if a0 ≥ (-1099511627776) then (some (decide (a0 ≤ 1099511627776))) else (some false)
set_option maxHeartbeats 8000000 in
set_option maxRecDepth 100000 in
theorem pair_count.calls (a0 : Int) (r : Bool) (w : World) (h : pair_count.f a0 = some r) :
    Calls Try.prog 25 #[.int .i64 a0] w fun e w' => e = .returned (.bool r) ∧ Drawn0 w w' := by
  have H : (if a0 ≥ (-1099511627776) then (some (decide (a0 ≤ 1099511627776))) else (some false)) = some r := h
  clear h
  by_cases c2 : a0 ≥ (-1099511627776)
  · rw [if_pos c2] at H
    have c2b0 : decide ((-1099511627776) ≤ a0) = true := decide_eq_true c2
    clear c2
    obtain rfl := Option.some.inj H
    go_enter Try.func25, Try.ntmps25
    go_wp2
    go_ret
    exact ⟨by first | rfl | (simp; done) | (simp [*]; done), by repeat (first | exact Drawn0.refl _ | apply Drawn0.step)⟩
  · rw [if_neg c2] at H
    have c2b0 : decide ((-1099511627776) ≤ a0) = false := decide_eq_false c2
    clear c2
    obtain rfl := Option.some.inj H
    go_enter Try.func25, Try.ntmps25
    go_wp2
    go_ret
    exact ⟨by first | rfl | (simp; done) | (simp [*]; done), by repeat (first | exact Drawn0.refl _ | apply Drawn0.step)⟩

/-! ### pair_Of: function 14 -/
def pair_Of.f (a0 : Int) (a1 : Int) : Option Cx := some (Pair.ofC a0 a1)
theorem pair_Of.calls (a0 : Int) (a1 : Int) (r : Cx) (w : World) (h : pair_Of.f a0 a1 = some r) :
    Calls Try.prog 14 #[.int .i64 a0, .int .i64 a1] w fun e w' => e = .returned (Cx.v r) ∧ Drawn0 w w' := by
  unfold pair_Of.f at h
  obtain rfl := Option.some.inj h
  refine (Pair.of_v a0 a1 w).mono ?_
  rintro e w' ⟨rfl, rfl⟩
  exact ⟨rfl, Drawn0.refl _⟩

/-! ### pair_First: function 21 -/
def pair_First.f (a0 : Cx) : Option Int := (Pair.dec a0).bind fun p => some p.1
theorem pair_First.calls (a0 : Cx) (r : Int) (w : World) (h : pair_First.f a0 = some r) :
    Calls Try.prog 21 #[Cx.v a0] w fun e w' => e = .returned (.int .i64 r) ∧ Drawn0 w w' := by
  unfold pair_First.f at h
  obtain ⟨p, hp, h2⟩ := Option.bind_eq_some_iff.1 h
  clear h
  have h := h2
  clear h2
  obtain ⟨e, hh, c1, c2⟩ := Pair.dec_some hp
  subst e
  obtain rfl := Option.some.inj h
  have := Pair.first_v _ p.1 p.2 hh w
  rw [if_pos ⟨c1, c2⟩] at this
  refine this.mono ?_
  rintro e w' ⟨rfl, rfl⟩
  exact ⟨rfl, Drawn0.refl _⟩

/-! ### pair_Second: function 22 -/
def pair_Second.f (a0 : Cx) : Option Int := (Pair.dec a0).bind fun p => some p.2
theorem pair_Second.calls (a0 : Cx) (r : Int) (w : World) (h : pair_Second.f a0 = some r) :
    Calls Try.prog 22 #[Cx.v a0] w fun e w' => e = .returned (.int .i64 r) ∧ Drawn0 w w' := by
  unfold pair_Second.f at h
  obtain ⟨p, hp, h2⟩ := Option.bind_eq_some_iff.1 h
  clear h
  have h := h2
  clear h2
  obtain ⟨e, hh, c1, c2⟩ := Pair.dec_some hp
  subst e
  obtain rfl := Option.some.inj h
  have := Pair.second_v _ p.1 p.2 hh w
  rw [if_pos ⟨c1, c2⟩] at this
  refine this.mono ?_
  rintro e w' ⟨rfl, rfl⟩
  exact ⟨rfl, Drawn0.refl _⟩

/-! ### pair_clean: function 23 -/
def pair_clean.f (a0 : Cx) : Option (Cx) := (pair_First.f a0).bind fun t101 => ((pair_Second.f a0).bind fun t102 => ((pair_Of.f t101 t102).bind fun t103 => (some t103)))
set_option maxHeartbeats 8000000 in
set_option maxRecDepth 100000 in
theorem pair_clean.calls (a0 : Cx) (r : Cx) (w : World) (h : pair_clean.f a0 = some r) :
    Calls Try.prog 23 #[Cx.v a0] w fun e w' => e = .returned (Cx.v r) ∧ Drawn0 w w' := by
  have H : ((pair_First.f a0).bind fun t101 => ((pair_Second.f a0).bind fun t102 => ((pair_Of.f t101 t102).bind fun t103 => (some t103)))) = some r := h
  clear h
  replace H := Option.bind_eq_some_iff.mp H
  obtain ⟨t101, A20, H⟩ := H
  replace H : ((pair_Second.f a0).bind fun t102 => ((pair_Of.f t101 t102).bind fun t103 => (some t103))) = some r := H
  have A2 := Aside0.mk A20
  clear A20
  replace H := Option.bind_eq_some_iff.mp H
  obtain ⟨t102, A30, H⟩ := H
  replace H : ((pair_Of.f t101 t102).bind fun t103 => (some t103)) = some r := H
  have A3 := Aside0.mk A30
  clear A30
  replace H := Option.bind_eq_some_iff.mp H
  obtain ⟨t103, A40, H⟩ := H
  replace H : (some t103) = some r := H
  have A4 := Aside0.mk A40
  clear A40
  obtain rfl := Option.some.inj H
  go_enter Try.func23, Try.ntmps23
  go_wp2_with (first | ((with_reducible refine gate_callee (f := 21) rfl ?_); refine goesL_ (some 4) rfl rfl Try.func21 (by kernel_rfl) rfl #[Cx.v a0] rfl (by (try simp only [List.map_toArray, List.map_cons, List.map_nil]); first | done | rfl | (simp only [List.length_drop, List.length_take]; rfl)) ?_; (with_reducible refine (pair_First.calls a0 t101 _ A2.out).mono ?_); rintro e w' ⟨rfl, ⟨nd, rfl⟩⟩; refine ⟨_, rfl, ?_⟩) | ((with_reducible refine gate_callee (f := 22) rfl ?_); refine goesL_ (some 6) rfl rfl Try.func22 (by kernel_rfl) rfl #[Cx.v a0] rfl (by (try simp only [List.map_toArray, List.map_cons, List.map_nil]); first | done | rfl | (simp only [List.length_drop, List.length_take]; rfl)) ?_; (with_reducible refine (pair_Second.calls a0 t102 _ A3.out).mono ?_); rintro e w' ⟨rfl, ⟨nd, rfl⟩⟩; refine ⟨_, rfl, ?_⟩) | ((with_reducible refine gate_callee (f := 14) rfl ?_); refine goesL_ (some 7) rfl rfl Try.func14 (by kernel_rfl) rfl #[.int .i64 t101, .int .i64 t102] rfl (by (try simp only [List.map_toArray, List.map_cons, List.map_nil]); first | done | rfl | (simp only [List.length_drop, List.length_take]; rfl)) ?_; (with_reducible refine (pair_Of.calls t101 t102 t103 _ A4.out).mono ?_); rintro e w' ⟨rfl, ⟨nd, rfl⟩⟩; refine ⟨_, rfl, ?_⟩))
  go_ret
  exact ⟨by first | rfl | (simp; done) | (simp [*]; done), by repeat (first | exact Drawn0.refl _ | apply Drawn0.step)⟩

/-! ### pair_Sum: function 10 -/
def pair_Sum.f (l0 : List Cx) : Option Cx := (Pair.decs l0).bind fun ps => some (Pair.ofC (Pair.sumP 0 0 ps).1 (Pair.sumP 0 0 ps).2)
theorem pair_Sum.calls (A0 : Option Addr) (c0 : Nat) (l0 : List Cx) (r : Cx) (w : World) (hr0 : Kd.C (Kd.scalar Cx.v Cx.one) w A0 l0.length l0) (hc0 : l0.length ≤ c0) (h : pair_Sum.f l0 = some r) :
    Calls Try.prog 10 #[.slice A0 l0.length c0] w fun e w' => e = .returned (Cx.v r) ∧ Drawn0 w w' := by
  unfold pair_Sum.f at h
  obtain ⟨ps, hp, h2⟩ := Option.bind_eq_some_iff.1 h
  obtain rfl := Option.some.inj h2
  refine (Pair.sum_v l0 ps (Pair.decs_some hp) A0 c0 w hr0 hr0.2.1).mono ?_
  rintro e w' ⟨rfl, rfl⟩
  exact ⟨rfl, Drawn0.refl _⟩

/-! ### pair_Turn: function 12 -/
def pair_Turn.f (a0 : Cx) : Option Cx := (Pair.dec a0).bind fun p => some (Pair.ofC (-p.2) p.1)
theorem pair_Turn.calls (a0 : Cx) (r : Cx) (w : World) (h : pair_Turn.f a0 = some r) :
    Calls Try.prog 12 #[Cx.v a0] w fun e w' => e = .returned (Cx.v r) ∧ Drawn0 w w' := by
  unfold pair_Turn.f at h
  obtain ⟨p, hp, h2⟩ := Option.bind_eq_some_iff.1 h
  clear h
  have h := h2
  clear h2
  obtain ⟨e, hh, c1, c2⟩ := Pair.dec_some hp
  subst e
  obtain rfl := Option.some.inj h
  refine (Pair.turn_v p.1 p.2 c1 c2 _ hh w).mono ?_
  rintro e w' ⟨rfl, rfl⟩
  exact ⟨rfl, Drawn0.refl _⟩

/-! ### pair_Total: function 17 -/
def pair_Total.f (a0 : Cx) : Option Int := (Pair.dec a0).bind fun p => some (p.1 + p.2)
theorem pair_Total.calls (a0 : Cx) (r : Int) (w : World) (h : pair_Total.f a0 = some r) :
    Calls Try.prog 17 #[Cx.v a0] w fun e w' => e = .returned (.int .i64 r) ∧ Drawn0 w w' := by
  unfold pair_Total.f at h
  obtain ⟨p, hp, h2⟩ := Option.bind_eq_some_iff.1 h
  clear h
  have h := h2
  clear h2
  obtain ⟨e, hh, c1, c2⟩ := Pair.dec_some hp
  subst e
  obtain rfl := Option.some.inj h
  refine (Pair.total_v p.1 p.2 c1 c2 _ hh w).mono ?_
  rintro e w' ⟨rfl, rfl⟩
  exact ⟨rfl, Drawn0.refl _⟩

/-! ### sakialaw04_live: function 7 -/
def sakialaw04_live.f  : Option (Bool) := (pair_Of.f 3 4).bind fun t104 => ((pair_Of.f 1 0).bind fun t105 => ((pair_Sum.f (([t104, t105] : List Cx))).bind fun t109 => ((pair_First.f t109).bind fun t110 => (if t110 = 4 then ((pair_Second.f t109).bind fun t111 => (if t111 = 4 then ((pair_Total.f t109).bind fun t112 => (if t112 = 8 then ((pair_Turn.f t109).bind fun t113 => ((pair_First.f t113).bind fun t114 => (some (t114 == (-4))))) else (some false))) else (some false))) else (some false)))))
set_option maxHeartbeats 8000000 in
set_option maxRecDepth 100000 in
theorem sakialaw04_live.calls  (r : Bool) (w : World) (h : sakialaw04_live.f  = some r) :
    Calls Try.prog 7 #[] w fun e w' => e = .returned (.bool r) ∧ Below w.heap.size w w' := by
  have HB := Aside0.mk (Below.refl w.heap.size w)
  have H : ((pair_Of.f 3 4).bind fun t104 => ((pair_Of.f 1 0).bind fun t105 => ((pair_Sum.f (([t104, t105] : List Cx))).bind fun t109 => ((pair_First.f t109).bind fun t110 => (if t110 = 4 then ((pair_Second.f t109).bind fun t111 => (if t111 = 4 then ((pair_Total.f t109).bind fun t112 => (if t112 = 8 then ((pair_Turn.f t109).bind fun t113 => ((pair_First.f t113).bind fun t114 => (some (t114 == (-4))))) else (some false))) else (some false))) else (some false)))))) = some r := h
  clear h
  replace H := Option.bind_eq_some_iff.mp H
  obtain ⟨t104, A10, H⟩ := H
  replace H : ((pair_Of.f 1 0).bind fun t105 => ((pair_Sum.f (([t104, t105] : List Cx))).bind fun t109 => ((pair_First.f t109).bind fun t110 => (if t110 = 4 then ((pair_Second.f t109).bind fun t111 => (if t111 = 4 then ((pair_Total.f t109).bind fun t112 => (if t112 = 8 then ((pair_Turn.f t109).bind fun t113 => ((pair_First.f t113).bind fun t114 => (some (t114 == (-4))))) else (some false))) else (some false))) else (some false))))) = some r := H
  have A1 := Aside0.mk A10
  clear A10
  replace H := Option.bind_eq_some_iff.mp H
  obtain ⟨t105, A20, H⟩ := H
  replace H : ((pair_Sum.f (([t104, t105] : List Cx))).bind fun t109 => ((pair_First.f t109).bind fun t110 => (if t110 = 4 then ((pair_Second.f t109).bind fun t111 => (if t111 = 4 then ((pair_Total.f t109).bind fun t112 => (if t112 = 8 then ((pair_Turn.f t109).bind fun t113 => ((pair_First.f t113).bind fun t114 => (some (t114 == (-4))))) else (some false))) else (some false))) else (some false)))) = some r := H
  have A2 := Aside0.mk A20
  clear A20
  obtain ⟨y106, hy106⟩ : ∃ y_ : List Cx, y_ = (([t104, t105] : List Cx)) := ⟨_, rfl⟩
  replace H : ((pair_Sum.f y106).bind fun t109 => ((pair_First.f t109).bind fun t110 => (if t110 = 4 then ((pair_Second.f t109).bind fun t111 => (if t111 = 4 then ((pair_Total.f t109).bind fun t112 => (if t112 = 8 then ((pair_Turn.f t109).bind fun t113 => ((pair_First.f t113).bind fun t114 => (some (t114 == (-4))))) else (some false))) else (some false))) else (some false)))) = some r := by first | (rw [hy106]; with_reducible exact H) | (have H2_ := (Option.bind_some _ _).symm.trans H; rw [hy106]; with_reducible exact H2_) | (have H2_ := (Option.bind_some _ _).symm.trans H; with_reducible exact H2_) | with_reducible exact H | (rw [hy106]; exact H) | exact H
  have Ny106 := Aside0.mk hy106
  clear hy106
  replace H := Option.bind_eq_some_iff.mp H
  obtain ⟨t109, A30, H⟩ := H
  replace H : ((pair_First.f t109).bind fun t110 => (if t110 = 4 then ((pair_Second.f t109).bind fun t111 => (if t111 = 4 then ((pair_Total.f t109).bind fun t112 => (if t112 = 8 then ((pair_Turn.f t109).bind fun t113 => ((pair_First.f t113).bind fun t114 => (some (t114 == (-4))))) else (some false))) else (some false))) else (some false))) = some r := H
  have A3 := Aside0.mk A30
  clear A30
  replace H := Option.bind_eq_some_iff.mp H
  obtain ⟨t110, A40, H⟩ := H
  replace H : (if t110 = 4 then ((pair_Second.f t109).bind fun t111 => (if t111 = 4 then ((pair_Total.f t109).bind fun t112 => (if t112 = 8 then ((pair_Turn.f t109).bind fun t113 => ((pair_First.f t113).bind fun t114 => (some (t114 == (-4))))) else (some false))) else (some false))) else (some false)) = some r := H
  have A4 := Aside0.mk A40
  clear A40
  by_cases c5 : t110 = 4
  · rw [if_pos c5] at H
    have c5b0 : (t110 == 4) = true := beq_iff_eq.mpr c5
    have c5b1 : (t110 != 4) = false := bne_eq_false_iff_eq.mpr c5
    clear c5
    replace H := Option.bind_eq_some_iff.mp H
    obtain ⟨t111, A60, H⟩ := H
    replace H : (if t111 = 4 then ((pair_Total.f t109).bind fun t112 => (if t112 = 8 then ((pair_Turn.f t109).bind fun t113 => ((pair_First.f t113).bind fun t114 => (some (t114 == (-4))))) else (some false))) else (some false)) = some r := H
    have A6 := Aside0.mk A60
    clear A60
    by_cases c7 : t111 = 4
    · rw [if_pos c7] at H
      have c7b0 : (t111 == 4) = true := beq_iff_eq.mpr c7
      have c7b1 : (t111 != 4) = false := bne_eq_false_iff_eq.mpr c7
      clear c7
      replace H := Option.bind_eq_some_iff.mp H
      obtain ⟨t112, A80, H⟩ := H
      replace H : (if t112 = 8 then ((pair_Turn.f t109).bind fun t113 => ((pair_First.f t113).bind fun t114 => (some (t114 == (-4))))) else (some false)) = some r := H
      have A8 := Aside0.mk A80
      clear A80
      by_cases c9 : t112 = 8
      · rw [if_pos c9] at H
        have c9b0 : (t112 == 8) = true := beq_iff_eq.mpr c9
        have c9b1 : (t112 != 8) = false := bne_eq_false_iff_eq.mpr c9
        clear c9
        replace H := Option.bind_eq_some_iff.mp H
        obtain ⟨t113, A100, H⟩ := H
        replace H : ((pair_First.f t113).bind fun t114 => (some (t114 == (-4)))) = some r := H
        have A10 := Aside0.mk A100
        clear A100
        replace H := Option.bind_eq_some_iff.mp H
        obtain ⟨t114, A110, H⟩ := H
        replace H : (some (t114 == (-4))) = some r := H
        have A11 := Aside0.mk A110
        clear A110
        obtain rfl := Option.some.inj H
        go_enter Try.func7, Try.ntmps7
        go_wp2_with (first | ((with_reducible refine gate_callee (f := 14) rfl ?_); refine goesL_ (some 2) rfl rfl Try.func14 (by kernel_rfl) rfl #[.int .i64 3, .int .i64 4] rfl (by (try simp only [List.map_toArray, List.map_cons, List.map_nil]); first | done | rfl | (simp only [List.length_drop, List.length_take]; rfl)) ?_; (with_reducible refine (pair_Of.calls 3 4 t104 _ A1.out).mono ?_); rintro e w' ⟨rfl, ⟨nd, rfl⟩⟩; refine ⟨_, rfl, ?_⟩) | ((with_reducible refine gate_callee (f := 14) rfl ?_); refine goesL_ (some 3) rfl rfl Try.func14 (by kernel_rfl) rfl #[.int .i64 1, .int .i64 0] rfl (by (try simp only [List.map_toArray, List.map_cons, List.map_nil]); first | done | rfl | (simp only [List.length_drop, List.length_take]; rfl)) ?_; (with_reducible refine (pair_Of.calls 1 0 t105 _ A2.out).mono ?_); rintro e w' ⟨rfl, ⟨nd, rfl⟩⟩; refine ⟨_, rfl, ?_⟩) | ((with_reducible refine gate_dst (N := 4) rfl ?_); refine Kd.R_lit (Kd.scalar Cx.v Cx.one) _ 29 ?hg (N := 4) ?hd (xs := ([t104, t105] : List Cx)) (inner := [Cx.v t104, Cx.v t105]) (ok := fun _ => True) (okp := fun _ => True) ?hr ?hp (fun _ hk => hk) trivial (Below.refl _ _) (Nat.le_refl _) (by simp) ?_; (case hd => rfl); (case hg => rfl); (case hr => first | (go_simp; done) | (go_simp; rfl)); (case hp => exact (Reps.one (show Kd.M (Kd.scalar Cx.v Cx.one) _ _ _ t104 [Cx.v t104] from rfl) (Reps.one (show Kd.M (Kd.scalar Cx.v Cx.one) _ _ _ t105 [Cx.v t105] from rfl) (Reps.none _ _)))); intro v107 w12 ho13 hb hg_ hnew_; clear hg_ hnew_; (first | rw [← Ny106.out] at ho13 | (simp only [Int.reduceToNat] at ho13; rw [← Ny106.out] at ho13)); have n0_ := Aside0.mk (Kd.R_lower ho13 (below_size (by repeat (first | (with_reducible first | exact HB.out | apply below_alloc | apply pw_below_drewN | apply below_drew1) | exact HB.out)))); have n1_ := Aside0.mk (below_step (by repeat (first | (with_reducible first | exact HB.out | apply below_alloc | apply pw_below_drewN | apply below_drew1) | exact HB.out)) hb); clear HB; have HO108 := n0_; have HB := n1_; clear n0_ n1_; clear hb ho13; obtain ⟨Ao14, co14, eo14⟩ := Kd.R_slice HO108.out; subst eo14) | ((with_reducible refine gate_callee (f := 10) rfl ?_); refine goesL_ (some 5) rfl rfl Try.func10 (by kernel_rfl) rfl #[.slice Ao14 y106.length co14] rfl (by (try simp only [List.map_toArray, List.map_cons, List.map_nil]); first | done | rfl | (simp only [List.length_drop, List.length_take]; rfl)) ?_; (with_reducible refine (pair_Sum.calls _ _ y106 t109 _ ?side1 ?side2 A3.out).mono ?_); (case side1 => repeat (first | exact (Kd.R_reads' HO108.out).2.2 | (with_reducible refine Kd.C_alloc ?_ _) | (with_reducible refine Kd.C_drewN ?_ _) | (with_reducible refine Kd.C_drew ?_))); (case side2 => exact (Kd.R_reads' HO108.out).2.1); rintro e w' ⟨rfl, ⟨nd, rfl⟩⟩; refine ⟨_, rfl, ?_⟩) | ((with_reducible refine gate_callee (f := 21) rfl ?_); refine goesL_ (some 7) rfl rfl Try.func21 (by kernel_rfl) rfl #[Cx.v t109] rfl (by (try simp only [List.map_toArray, List.map_cons, List.map_nil]); first | done | rfl | (simp only [List.length_drop, List.length_take]; rfl)) ?_; (with_reducible refine (pair_First.calls t109 t110 _ A4.out).mono ?_); rintro e w' ⟨rfl, ⟨nd, rfl⟩⟩; refine ⟨_, rfl, ?_⟩) | (go_at_call 22; (with_reducible refine (pair_Second.calls t109 t111 _ A6.out).mono ?_); rintro e w' ⟨rfl, ⟨nd, rfl⟩⟩) | (go_at_call 17; (with_reducible refine (pair_Total.calls t109 t112 _ A8.out).mono ?_); rintro e w' ⟨rfl, ⟨nd, rfl⟩⟩) | (go_at_call 12; (with_reducible refine (pair_Turn.calls t109 t113 _ A10.out).mono ?_); rintro e w' ⟨rfl, ⟨nd, rfl⟩⟩) | (go_at_call 21; (with_reducible refine (pair_First.calls t113 t114 _ A11.out).mono ?_); rintro e w' ⟨rfl, ⟨nd, rfl⟩⟩))
        go_ret
        exact ⟨by first | rfl | (simp [errW_none, errW_some] <;> rfl) | (simp [*, errW_none, errW_some] <;> rfl), by repeat (first | (with_reducible first | exact HB.out | apply below_alloc | apply pw_below_drewN | apply below_drew1) | exact HB.out)⟩
      · rw [if_neg c9] at H
        have c9b0 : (t112 == 8) = false := beq_eq_false_iff_ne.mpr c9
        have c9b1 : (t112 != 8) = true := bne_iff_ne.mpr c9
        obtain rfl := Option.some.inj H
        go_enter Try.func7, Try.ntmps7
        go_wp2_with (first | ((with_reducible refine gate_callee (f := 14) rfl ?_); refine goesL_ (some 2) rfl rfl Try.func14 (by kernel_rfl) rfl #[.int .i64 3, .int .i64 4] rfl (by (try simp only [List.map_toArray, List.map_cons, List.map_nil]); first | done | rfl | (simp only [List.length_drop, List.length_take]; rfl)) ?_; (with_reducible refine (pair_Of.calls 3 4 t104 _ A1.out).mono ?_); rintro e w' ⟨rfl, ⟨nd, rfl⟩⟩; refine ⟨_, rfl, ?_⟩) | ((with_reducible refine gate_callee (f := 14) rfl ?_); refine goesL_ (some 3) rfl rfl Try.func14 (by kernel_rfl) rfl #[.int .i64 1, .int .i64 0] rfl (by (try simp only [List.map_toArray, List.map_cons, List.map_nil]); first | done | rfl | (simp only [List.length_drop, List.length_take]; rfl)) ?_; (with_reducible refine (pair_Of.calls 1 0 t105 _ A2.out).mono ?_); rintro e w' ⟨rfl, ⟨nd, rfl⟩⟩; refine ⟨_, rfl, ?_⟩) | ((with_reducible refine gate_dst (N := 4) rfl ?_); refine Kd.R_lit (Kd.scalar Cx.v Cx.one) _ 29 ?hg (N := 4) ?hd (xs := ([t104, t105] : List Cx)) (inner := [Cx.v t104, Cx.v t105]) (ok := fun _ => True) (okp := fun _ => True) ?hr ?hp (fun _ hk => hk) trivial (Below.refl _ _) (Nat.le_refl _) (by simp) ?_; (case hd => rfl); (case hg => rfl); (case hr => first | (go_simp; done) | (go_simp; rfl)); (case hp => exact (Reps.one (show Kd.M (Kd.scalar Cx.v Cx.one) _ _ _ t104 [Cx.v t104] from rfl) (Reps.one (show Kd.M (Kd.scalar Cx.v Cx.one) _ _ _ t105 [Cx.v t105] from rfl) (Reps.none _ _)))); intro v107 w15 ho16 hb hg_ hnew_; clear hg_ hnew_; (first | rw [← Ny106.out] at ho16 | (simp only [Int.reduceToNat] at ho16; rw [← Ny106.out] at ho16)); have n0_ := Aside0.mk (Kd.R_lower ho16 (below_size (by repeat (first | (with_reducible first | exact HB.out | apply below_alloc | apply pw_below_drewN | apply below_drew1) | exact HB.out)))); have n1_ := Aside0.mk (below_step (by repeat (first | (with_reducible first | exact HB.out | apply below_alloc | apply pw_below_drewN | apply below_drew1) | exact HB.out)) hb); clear HB; have HO108 := n0_; have HB := n1_; clear n0_ n1_; clear hb ho16; obtain ⟨Ao17, co17, eo17⟩ := Kd.R_slice HO108.out; subst eo17) | ((with_reducible refine gate_callee (f := 10) rfl ?_); refine goesL_ (some 5) rfl rfl Try.func10 (by kernel_rfl) rfl #[.slice Ao17 y106.length co17] rfl (by (try simp only [List.map_toArray, List.map_cons, List.map_nil]); first | done | rfl | (simp only [List.length_drop, List.length_take]; rfl)) ?_; (with_reducible refine (pair_Sum.calls _ _ y106 t109 _ ?side1 ?side2 A3.out).mono ?_); (case side1 => repeat (first | exact (Kd.R_reads' HO108.out).2.2 | (with_reducible refine Kd.C_alloc ?_ _) | (with_reducible refine Kd.C_drewN ?_ _) | (with_reducible refine Kd.C_drew ?_))); (case side2 => exact (Kd.R_reads' HO108.out).2.1); rintro e w' ⟨rfl, ⟨nd, rfl⟩⟩; refine ⟨_, rfl, ?_⟩) | ((with_reducible refine gate_callee (f := 21) rfl ?_); refine goesL_ (some 7) rfl rfl Try.func21 (by kernel_rfl) rfl #[Cx.v t109] rfl (by (try simp only [List.map_toArray, List.map_cons, List.map_nil]); first | done | rfl | (simp only [List.length_drop, List.length_take]; rfl)) ?_; (with_reducible refine (pair_First.calls t109 t110 _ A4.out).mono ?_); rintro e w' ⟨rfl, ⟨nd, rfl⟩⟩; refine ⟨_, rfl, ?_⟩) | (go_at_call 22; (with_reducible refine (pair_Second.calls t109 t111 _ A6.out).mono ?_); rintro e w' ⟨rfl, ⟨nd, rfl⟩⟩) | (go_at_call 17; (with_reducible refine (pair_Total.calls t109 t112 _ A8.out).mono ?_); rintro e w' ⟨rfl, ⟨nd, rfl⟩⟩))
        go_ret
        exact ⟨by first | rfl | (simp [errW_none, errW_some] <;> rfl) | (simp [*, errW_none, errW_some] <;> rfl), by repeat (first | (with_reducible first | exact HB.out | apply below_alloc | apply pw_below_drewN | apply below_drew1) | exact HB.out)⟩
    · rw [if_neg c7] at H
      have c7b0 : (t111 == 4) = false := beq_eq_false_iff_ne.mpr c7
      have c7b1 : (t111 != 4) = true := bne_iff_ne.mpr c7
      obtain rfl := Option.some.inj H
      go_enter Try.func7, Try.ntmps7
      go_wp2_with (first | ((with_reducible refine gate_callee (f := 14) rfl ?_); refine goesL_ (some 2) rfl rfl Try.func14 (by kernel_rfl) rfl #[.int .i64 3, .int .i64 4] rfl (by (try simp only [List.map_toArray, List.map_cons, List.map_nil]); first | done | rfl | (simp only [List.length_drop, List.length_take]; rfl)) ?_; (with_reducible refine (pair_Of.calls 3 4 t104 _ A1.out).mono ?_); rintro e w' ⟨rfl, ⟨nd, rfl⟩⟩; refine ⟨_, rfl, ?_⟩) | ((with_reducible refine gate_callee (f := 14) rfl ?_); refine goesL_ (some 3) rfl rfl Try.func14 (by kernel_rfl) rfl #[.int .i64 1, .int .i64 0] rfl (by (try simp only [List.map_toArray, List.map_cons, List.map_nil]); first | done | rfl | (simp only [List.length_drop, List.length_take]; rfl)) ?_; (with_reducible refine (pair_Of.calls 1 0 t105 _ A2.out).mono ?_); rintro e w' ⟨rfl, ⟨nd, rfl⟩⟩; refine ⟨_, rfl, ?_⟩) | ((with_reducible refine gate_dst (N := 4) rfl ?_); refine Kd.R_lit (Kd.scalar Cx.v Cx.one) _ 29 ?hg (N := 4) ?hd (xs := ([t104, t105] : List Cx)) (inner := [Cx.v t104, Cx.v t105]) (ok := fun _ => True) (okp := fun _ => True) ?hr ?hp (fun _ hk => hk) trivial (Below.refl _ _) (Nat.le_refl _) (by simp) ?_; (case hd => rfl); (case hg => rfl); (case hr => first | (go_simp; done) | (go_simp; rfl)); (case hp => exact (Reps.one (show Kd.M (Kd.scalar Cx.v Cx.one) _ _ _ t104 [Cx.v t104] from rfl) (Reps.one (show Kd.M (Kd.scalar Cx.v Cx.one) _ _ _ t105 [Cx.v t105] from rfl) (Reps.none _ _)))); intro v107 w18 ho19 hb hg_ hnew_; clear hg_ hnew_; (first | rw [← Ny106.out] at ho19 | (simp only [Int.reduceToNat] at ho19; rw [← Ny106.out] at ho19)); have n0_ := Aside0.mk (Kd.R_lower ho19 (below_size (by repeat (first | (with_reducible first | exact HB.out | apply below_alloc | apply pw_below_drewN | apply below_drew1) | exact HB.out)))); have n1_ := Aside0.mk (below_step (by repeat (first | (with_reducible first | exact HB.out | apply below_alloc | apply pw_below_drewN | apply below_drew1) | exact HB.out)) hb); clear HB; have HO108 := n0_; have HB := n1_; clear n0_ n1_; clear hb ho19; obtain ⟨Ao20, co20, eo20⟩ := Kd.R_slice HO108.out; subst eo20) | ((with_reducible refine gate_callee (f := 10) rfl ?_); refine goesL_ (some 5) rfl rfl Try.func10 (by kernel_rfl) rfl #[.slice Ao20 y106.length co20] rfl (by (try simp only [List.map_toArray, List.map_cons, List.map_nil]); first | done | rfl | (simp only [List.length_drop, List.length_take]; rfl)) ?_; (with_reducible refine (pair_Sum.calls _ _ y106 t109 _ ?side1 ?side2 A3.out).mono ?_); (case side1 => repeat (first | exact (Kd.R_reads' HO108.out).2.2 | (with_reducible refine Kd.C_alloc ?_ _) | (with_reducible refine Kd.C_drewN ?_ _) | (with_reducible refine Kd.C_drew ?_))); (case side2 => exact (Kd.R_reads' HO108.out).2.1); rintro e w' ⟨rfl, ⟨nd, rfl⟩⟩; refine ⟨_, rfl, ?_⟩) | ((with_reducible refine gate_callee (f := 21) rfl ?_); refine goesL_ (some 7) rfl rfl Try.func21 (by kernel_rfl) rfl #[Cx.v t109] rfl (by (try simp only [List.map_toArray, List.map_cons, List.map_nil]); first | done | rfl | (simp only [List.length_drop, List.length_take]; rfl)) ?_; (with_reducible refine (pair_First.calls t109 t110 _ A4.out).mono ?_); rintro e w' ⟨rfl, ⟨nd, rfl⟩⟩; refine ⟨_, rfl, ?_⟩) | (go_at_call 22; (with_reducible refine (pair_Second.calls t109 t111 _ A6.out).mono ?_); rintro e w' ⟨rfl, ⟨nd, rfl⟩⟩))
      go_ret
      exact ⟨by first | rfl | (simp [errW_none, errW_some] <;> rfl) | (simp [*, errW_none, errW_some] <;> rfl), by repeat (first | (with_reducible first | exact HB.out | apply below_alloc | apply pw_below_drewN | apply below_drew1) | exact HB.out)⟩
  · rw [if_neg c5] at H
    have c5b0 : (t110 == 4) = false := beq_eq_false_iff_ne.mpr c5
    have c5b1 : (t110 != 4) = true := bne_iff_ne.mpr c5
    obtain rfl := Option.some.inj H
    go_enter Try.func7, Try.ntmps7
    go_wp2_with (first | ((with_reducible refine gate_callee (f := 14) rfl ?_); refine goesL_ (some 2) rfl rfl Try.func14 (by kernel_rfl) rfl #[.int .i64 3, .int .i64 4] rfl (by (try simp only [List.map_toArray, List.map_cons, List.map_nil]); first | done | rfl | (simp only [List.length_drop, List.length_take]; rfl)) ?_; (with_reducible refine (pair_Of.calls 3 4 t104 _ A1.out).mono ?_); rintro e w' ⟨rfl, ⟨nd, rfl⟩⟩; refine ⟨_, rfl, ?_⟩) | ((with_reducible refine gate_callee (f := 14) rfl ?_); refine goesL_ (some 3) rfl rfl Try.func14 (by kernel_rfl) rfl #[.int .i64 1, .int .i64 0] rfl (by (try simp only [List.map_toArray, List.map_cons, List.map_nil]); first | done | rfl | (simp only [List.length_drop, List.length_take]; rfl)) ?_; (with_reducible refine (pair_Of.calls 1 0 t105 _ A2.out).mono ?_); rintro e w' ⟨rfl, ⟨nd, rfl⟩⟩; refine ⟨_, rfl, ?_⟩) | ((with_reducible refine gate_dst (N := 4) rfl ?_); refine Kd.R_lit (Kd.scalar Cx.v Cx.one) _ 29 ?hg (N := 4) ?hd (xs := ([t104, t105] : List Cx)) (inner := [Cx.v t104, Cx.v t105]) (ok := fun _ => True) (okp := fun _ => True) ?hr ?hp (fun _ hk => hk) trivial (Below.refl _ _) (Nat.le_refl _) (by simp) ?_; (case hd => rfl); (case hg => rfl); (case hr => first | (go_simp; done) | (go_simp; rfl)); (case hp => exact (Reps.one (show Kd.M (Kd.scalar Cx.v Cx.one) _ _ _ t104 [Cx.v t104] from rfl) (Reps.one (show Kd.M (Kd.scalar Cx.v Cx.one) _ _ _ t105 [Cx.v t105] from rfl) (Reps.none _ _)))); intro v107 w21 ho22 hb hg_ hnew_; clear hg_ hnew_; (first | rw [← Ny106.out] at ho22 | (simp only [Int.reduceToNat] at ho22; rw [← Ny106.out] at ho22)); have n0_ := Aside0.mk (Kd.R_lower ho22 (below_size (by repeat (first | (with_reducible first | exact HB.out | apply below_alloc | apply pw_below_drewN | apply below_drew1) | exact HB.out)))); have n1_ := Aside0.mk (below_step (by repeat (first | (with_reducible first | exact HB.out | apply below_alloc | apply pw_below_drewN | apply below_drew1) | exact HB.out)) hb); clear HB; have HO108 := n0_; have HB := n1_; clear n0_ n1_; clear hb ho22; obtain ⟨Ao23, co23, eo23⟩ := Kd.R_slice HO108.out; subst eo23) | ((with_reducible refine gate_callee (f := 10) rfl ?_); refine goesL_ (some 5) rfl rfl Try.func10 (by kernel_rfl) rfl #[.slice Ao23 y106.length co23] rfl (by (try simp only [List.map_toArray, List.map_cons, List.map_nil]); first | done | rfl | (simp only [List.length_drop, List.length_take]; rfl)) ?_; (with_reducible refine (pair_Sum.calls _ _ y106 t109 _ ?side1 ?side2 A3.out).mono ?_); (case side1 => repeat (first | exact (Kd.R_reads' HO108.out).2.2 | (with_reducible refine Kd.C_alloc ?_ _) | (with_reducible refine Kd.C_drewN ?_ _) | (with_reducible refine Kd.C_drew ?_))); (case side2 => exact (Kd.R_reads' HO108.out).2.1); rintro e w' ⟨rfl, ⟨nd, rfl⟩⟩; refine ⟨_, rfl, ?_⟩) | ((with_reducible refine gate_callee (f := 21) rfl ?_); refine goesL_ (some 7) rfl rfl Try.func21 (by kernel_rfl) rfl #[Cx.v t109] rfl (by (try simp only [List.map_toArray, List.map_cons, List.map_nil]); first | done | rfl | (simp only [List.length_drop, List.length_take]; rfl)) ?_; (with_reducible refine (pair_First.calls t109 t110 _ A4.out).mono ?_); rintro e w' ⟨rfl, ⟨nd, rfl⟩⟩; refine ⟨_, rfl, ?_⟩))
    go_ret
    exact ⟨by first | rfl | (simp [errW_none, errW_some] <;> rfl) | (simp [*, errW_none, errW_some] <;> rfl), by repeat (first | (with_reducible first | exact HB.out | apply below_alloc | apply pw_below_drewN | apply below_drew1) | exact HB.out)⟩

/-! ### pair_Mirror: function 13 -/
def pair_Mirror.f (a0 : Cx) : Option Cx := (Pair.dec a0).bind fun p => some (Pair.ofC p.2 p.1)
theorem pair_Mirror.calls (a0 : Cx) (r : Cx) (w : World) (h : pair_Mirror.f a0 = some r) :
    Calls Try.prog 13 #[Cx.v a0] w fun e w' => e = .returned (Cx.v r) ∧ Drawn0 w w' := by
  unfold pair_Mirror.f at h
  obtain ⟨p, hp, h2⟩ := Option.bind_eq_some_iff.1 h
  clear h
  have h := h2
  clear h2
  obtain ⟨e, hh, c1, c2⟩ := Pair.dec_some hp
  subst e
  obtain rfl := Option.some.inj h
  refine (Pair.mirror_v p.1 p.2 c1 c2 _ hh w).mono ?_
  rintro e w' ⟨rfl, rfl⟩
  exact ⟨rfl, Drawn0.refl _⟩

-- NOT PRINTED: function 27 (pair_far)

/-! ### pair_Times: function 18 -/
def pair_Times.f (a0 : Cx) (a1 : Int) : Option Cx := (Pair.dec a0).bind fun p => some (Pair.timesC p.1 p.2 a1)
theorem pair_Times.calls (a0 : Cx) (a1 : Int) (r : Cx) (w : World) (h : pair_Times.f a0 a1 = some r) :
    Calls Try.prog 18 #[Cx.v a0, .int .i64 a1] w fun e w' => e = .returned (Cx.v r) ∧ Drawn0 w w' := by
  unfold pair_Times.f at h
  obtain ⟨p, hp, h2⟩ := Option.bind_eq_some_iff.1 h
  clear h
  have h := h2
  clear h2
  obtain ⟨e, hh, c1, c2⟩ := Pair.dec_some hp
  subst e
  obtain rfl := Option.some.inj h
  refine (Pair.times_v p.1 p.2 a1 c1 c2 _ hh w).mono ?_
  rintro e w' ⟨rfl, rfl⟩
  exact ⟨rfl, Drawn0.refl _⟩

/-! ### pair_Least: function 20 -/
def pair_Least.f (a0 : Cx) (a1 : Cx) : Option Cx := (Pair.dec a0).bind fun p => (Pair.dec a1).bind fun q => some (Pair.ofC (mn p.1 q.1) (mn p.2 q.2))
theorem pair_Least.calls (a0 : Cx) (a1 : Cx) (r : Cx) (w : World) (h : pair_Least.f a0 a1 = some r) :
    Calls Try.prog 20 #[Cx.v a0, Cx.v a1] w fun e w' => e = .returned (Cx.v r) ∧ Drawn0 w w' := by
  unfold pair_Least.f at h
  obtain ⟨p, hp, h2⟩ := Option.bind_eq_some_iff.1 h
  clear h
  have h := h2
  clear h2
  obtain ⟨e, hh, c1, c2⟩ := Pair.dec_some hp
  subst e
  obtain ⟨q, hq, h2⟩ := Option.bind_eq_some_iff.1 h
  clear h
  obtain ⟨e, hh2, d1, d2⟩ := Pair.dec_some hq
  subst e
  obtain rfl := Option.some.inj h2
  refine (Pair.least_v p.1 p.2 q.1 q.2 c1 c2 d1 d2 _ _ hh hh2 w).mono ?_
  rintro e w' ⟨rfl, rfl⟩
  exact ⟨rfl, Drawn0.refl _⟩

-- NOT PRINTED: function 6 (sakialaw04_PairRaw)

end Go.Proofs.Ytlhodmhmbcdieaa.QPairRaw
