/- PairRaw: the walk, one way after the other. No conditions. -/
import Derived.Test.YtlhodmhmbcdieaaRawCalls
import Derived.Test.YtlhodmhmbcdieaaQPairRawx1
namespace Go.Proofs.Ytlhodmhmbcdieaa.RawLaw
open Go Go.RowKit Go.Proofs.Ytlhodmhmbcdieaa.Pair Go.Proofs.YtlhodmhmbcdieaaW.PrintWords Go.Proofs.YtlhodmhmbcdieaaW.PrintLast Go.Proofs.YtlhodmhmbcdieaaW.PrintMore
set_option linter.unusedVariables false
set_option linter.unusedSimpArgs false
theorem live_true : QPairRaw.sakialaw04_live.f = some true := by kernel_rfl
theorem row1 (c : Cx) (w : World) (t : TypeId) : (Kd.scalar Cx.v Cx.one).C (w.alloc (.cells #[Cx.v c] t)) (some ⟨w.heap.size, 0, none⟩) 1 [c] :=
  ⟨rfl, by decide, fun _ => ⟨_, rfl, fun j p hj => by
    match j, hj with
    | 0, hj =>
      simp at hj
      subst hj
      refine ⟨[Cx.v c], rfl, rfl, fun i u hu => ?_⟩
      match i, hu with
      | 0, hu =>
        simp at hu
        subst hu
        exact (blk_cell (blk_new w _) 0).trans rfl
      | i + 1, hu => simp at hu
    | j + 1, hj => simp at hj⟩⟩
set_option maxHeartbeats 2000000 in
theorem noA (x y : Nat) (k : Int) (lx : Bool) (Tx : Flt.Tests x false lx) (hN : NoPair ⟨x, y⟩) (w : World) : Calls Try.prog 6 #[.float .f64 x, .float .f64 y, .int .i64 k] w fun e w' => e = .returned (.bool true) ∧ Below w.heap.size w w' := by
  have gx := Tx.h1
  have a1 := first_no _ hN
  have a2 := second_no _ hN
  have a3 := sum_no _ hN
  have a4 := times_no _ k hN
  have a5 := turn_no _ hN
  have a6 := mirror_no _ hN
  have a7 := total_no _ hN
  have a8 := least_no _ ⟨4607182418800017408, 0⟩ hN
  have o0 : (FloatKind.f64.format.order 0 0 == some Ordering.eq) = true := by kernel_rfl
  have hN := hN
  unfold NoPair at hN
  clear Tx
  go_enter Try.func6, Try.ntmps6
  go_wp2_with (first | (go_at_call 16; refine (hN _).mono ?_; rintro e w' ⟨rfl, rfl⟩) | (go_at_call 21; refine (a1 _).mono ?_; rintro e w' ⟨rfl, rfl⟩) | (go_at_call 22; refine (a2 _).mono ?_; rintro e w' ⟨rfl, rfl⟩) | (go_at_call 10; refine (a3 _ _ _ (row1 ⟨x, y⟩ w _)).mono ?_; rintro e w' ⟨rfl, rfl⟩) | (go_at_call 18; refine (a4 _).mono ?_; rintro e w' ⟨rfl, rfl⟩) | (go_at_call 12; refine (a5 _).mono ?_; rintro e w' ⟨rfl, rfl⟩) | (go_at_call 13; refine (a6 _).mono ?_; rintro e w' ⟨rfl, rfl⟩) | (go_at_call 17; refine (a7 _).mono ?_; rintro e w' ⟨rfl, rfl⟩) | (go_at_call 20; refine (a8 _).mono ?_; rintro e w' ⟨rfl, rfl⟩) | (go_at_call 7; refine (QPairRaw.sakialaw04_live.calls true _ live_true).mono ?_; rintro e w' ⟨rfl, hb⟩))
  go_ret
  exact ⟨rfl, (below_alloc (Below.refl _ _) _).trans (hb.mono (by simp))⟩
set_option maxHeartbeats 2000000 in
theorem noB (x y : Nat) (k : Int) (Tx : Flt.Tests x true false) (hN : NoPair ⟨x, y⟩) (w : World) : Calls Try.prog 6 #[.float .f64 x, .float .f64 y, .int .i64 k] w fun e w' => e = .returned (.bool true) ∧ Below w.heap.size w w' := by
  have gx := Tx.h1
  have fx := Tx.h2
  have a1 := first_no _ hN
  have a2 := second_no _ hN
  have a3 := sum_no _ hN
  have a4 := times_no _ k hN
  have a5 := turn_no _ hN
  have a6 := mirror_no _ hN
  have a7 := total_no _ hN
  have a8 := least_no _ ⟨4607182418800017408, 0⟩ hN
  have o0 : (FloatKind.f64.format.order 0 0 == some Ordering.eq) = true := by kernel_rfl
  have hN := hN
  unfold NoPair at hN
  clear Tx
  go_enter Try.func6, Try.ntmps6
  go_wp2_with (first | (go_at_call 16; refine (hN _).mono ?_; rintro e w' ⟨rfl, rfl⟩) | (go_at_call 21; refine (a1 _).mono ?_; rintro e w' ⟨rfl, rfl⟩) | (go_at_call 22; refine (a2 _).mono ?_; rintro e w' ⟨rfl, rfl⟩) | (go_at_call 10; refine (a3 _ _ _ (row1 ⟨x, y⟩ w _)).mono ?_; rintro e w' ⟨rfl, rfl⟩) | (go_at_call 18; refine (a4 _).mono ?_; rintro e w' ⟨rfl, rfl⟩) | (go_at_call 12; refine (a5 _).mono ?_; rintro e w' ⟨rfl, rfl⟩) | (go_at_call 13; refine (a6 _).mono ?_; rintro e w' ⟨rfl, rfl⟩) | (go_at_call 17; refine (a7 _).mono ?_; rintro e w' ⟨rfl, rfl⟩) | (go_at_call 20; refine (a8 _).mono ?_; rintro e w' ⟨rfl, rfl⟩) | (go_at_call 7; refine (QPairRaw.sakialaw04_live.calls true _ live_true).mono ?_; rintro e w' ⟨rfl, hb⟩))
  go_ret
  exact ⟨rfl, (below_alloc (Below.refl _ _) _).trans (hb.mono (by simp))⟩
set_option maxHeartbeats 2000000 in
theorem noCA (x y : Nat) (k : Int) (Tx : Flt.Tests x true true) (nx : Int) (Nx : Flt.Near x nx false) (ly : Bool) (Ty : Flt.Tests y false ly) (hN : NoPair ⟨x, y⟩) (w : World) : Calls Try.prog 6 #[.float .f64 x, .float .f64 y, .int .i64 k] w fun e w' => e = .returned (.bool true) ∧ Below w.heap.size w w' := by
  have gx := Tx.h1
  have fx := Tx.h2
  have ex := Nx.h5
  have cx : ∀ w, (convert 47 2 (.float .f64 x)).run Try.prog w = .ok (.int .i64 nx) w := fun w => run_convert_float_int w 47 2 .f64 .i64 x nx (by rw [Try.underlying47]; rfl) Try.underlying2 Nx.h3
  have gy := Ty.h1
  have a1 := first_no _ hN
  have a2 := second_no _ hN
  have a3 := sum_no _ hN
  have a4 := times_no _ k hN
  have a5 := turn_no _ hN
  have a6 := mirror_no _ hN
  have a7 := total_no _ hN
  have a8 := least_no _ ⟨4607182418800017408, 0⟩ hN
  have o0 : (FloatKind.f64.format.order 0 0 == some Ordering.eq) = true := by kernel_rfl
  have hN := hN
  unfold NoPair at hN
  clear Tx Nx Ty
  go_enter Try.func6, Try.ntmps6
  go_wp2_with (first | (go_at_call 16; refine (hN _).mono ?_; rintro e w' ⟨rfl, rfl⟩) | (go_at_call 21; refine (a1 _).mono ?_; rintro e w' ⟨rfl, rfl⟩) | (go_at_call 22; refine (a2 _).mono ?_; rintro e w' ⟨rfl, rfl⟩) | (go_at_call 10; refine (a3 _ _ _ (row1 ⟨x, y⟩ w _)).mono ?_; rintro e w' ⟨rfl, rfl⟩) | (go_at_call 18; refine (a4 _).mono ?_; rintro e w' ⟨rfl, rfl⟩) | (go_at_call 12; refine (a5 _).mono ?_; rintro e w' ⟨rfl, rfl⟩) | (go_at_call 13; refine (a6 _).mono ?_; rintro e w' ⟨rfl, rfl⟩) | (go_at_call 17; refine (a7 _).mono ?_; rintro e w' ⟨rfl, rfl⟩) | (go_at_call 20; refine (a8 _).mono ?_; rintro e w' ⟨rfl, rfl⟩) | (go_at_call 7; refine (QPairRaw.sakialaw04_live.calls true _ live_true).mono ?_; rintro e w' ⟨rfl, hb⟩))
  go_ret
  exact ⟨rfl, (below_alloc (Below.refl _ _) _).trans (hb.mono (by simp))⟩
set_option maxHeartbeats 2000000 in
theorem noCB (x y : Nat) (k : Int) (Tx : Flt.Tests x true true) (nx : Int) (Nx : Flt.Near x nx false) (Ty : Flt.Tests y true false) (hN : NoPair ⟨x, y⟩) (w : World) : Calls Try.prog 6 #[.float .f64 x, .float .f64 y, .int .i64 k] w fun e w' => e = .returned (.bool true) ∧ Below w.heap.size w w' := by
  have gx := Tx.h1
  have fx := Tx.h2
  have ex := Nx.h5
  have cx : ∀ w, (convert 47 2 (.float .f64 x)).run Try.prog w = .ok (.int .i64 nx) w := fun w => run_convert_float_int w 47 2 .f64 .i64 x nx (by rw [Try.underlying47]; rfl) Try.underlying2 Nx.h3
  have gy := Ty.h1
  have fy := Ty.h2
  have a1 := first_no _ hN
  have a2 := second_no _ hN
  have a3 := sum_no _ hN
  have a4 := times_no _ k hN
  have a5 := turn_no _ hN
  have a6 := mirror_no _ hN
  have a7 := total_no _ hN
  have a8 := least_no _ ⟨4607182418800017408, 0⟩ hN
  have o0 : (FloatKind.f64.format.order 0 0 == some Ordering.eq) = true := by kernel_rfl
  have hN := hN
  unfold NoPair at hN
  clear Tx Nx Ty
  go_enter Try.func6, Try.ntmps6
  go_wp2_with (first | (go_at_call 16; refine (hN _).mono ?_; rintro e w' ⟨rfl, rfl⟩) | (go_at_call 21; refine (a1 _).mono ?_; rintro e w' ⟨rfl, rfl⟩) | (go_at_call 22; refine (a2 _).mono ?_; rintro e w' ⟨rfl, rfl⟩) | (go_at_call 10; refine (a3 _ _ _ (row1 ⟨x, y⟩ w _)).mono ?_; rintro e w' ⟨rfl, rfl⟩) | (go_at_call 18; refine (a4 _).mono ?_; rintro e w' ⟨rfl, rfl⟩) | (go_at_call 12; refine (a5 _).mono ?_; rintro e w' ⟨rfl, rfl⟩) | (go_at_call 13; refine (a6 _).mono ?_; rintro e w' ⟨rfl, rfl⟩) | (go_at_call 17; refine (a7 _).mono ?_; rintro e w' ⟨rfl, rfl⟩) | (go_at_call 20; refine (a8 _).mono ?_; rintro e w' ⟨rfl, rfl⟩) | (go_at_call 7; refine (QPairRaw.sakialaw04_live.calls true _ live_true).mono ?_; rintro e w' ⟨rfl, hb⟩))
  go_ret
  exact ⟨rfl, (below_alloc (Below.refl _ _) _).trans (hb.mono (by simp))⟩
set_option maxHeartbeats 2000000 in
theorem noCC (x y : Nat) (k : Int) (Tx : Flt.Tests x true true) (nx : Int) (Nx : Flt.Near x nx false) (Ty : Flt.Tests y true true) (hN : NoPair ⟨x, y⟩) (w : World) : Calls Try.prog 6 #[.float .f64 x, .float .f64 y, .int .i64 k] w fun e w' => e = .returned (.bool true) ∧ Below w.heap.size w w' := by
  have gx := Tx.h1
  have fx := Tx.h2
  have ex := Nx.h5
  have cx : ∀ w, (convert 47 2 (.float .f64 x)).run Try.prog w = .ok (.int .i64 nx) w := fun w => run_convert_float_int w 47 2 .f64 .i64 x nx (by rw [Try.underlying47]; rfl) Try.underlying2 Nx.h3
  have gy := Ty.h1
  have fy := Ty.h2
  have a1 := first_no _ hN
  have a2 := second_no _ hN
  have a3 := sum_no _ hN
  have a4 := times_no _ k hN
  have a5 := turn_no _ hN
  have a6 := mirror_no _ hN
  have a7 := total_no _ hN
  have a8 := least_no _ ⟨4607182418800017408, 0⟩ hN
  have o0 : (FloatKind.f64.format.order 0 0 == some Ordering.eq) = true := by kernel_rfl
  have hN := hN
  unfold NoPair at hN
  clear Tx Nx Ty
  go_enter Try.func6, Try.ntmps6
  go_wp2_with (first | (go_at_call 16; refine (hN _).mono ?_; rintro e w' ⟨rfl, rfl⟩) | (go_at_call 21; refine (a1 _).mono ?_; rintro e w' ⟨rfl, rfl⟩) | (go_at_call 22; refine (a2 _).mono ?_; rintro e w' ⟨rfl, rfl⟩) | (go_at_call 10; refine (a3 _ _ _ (row1 ⟨x, y⟩ w _)).mono ?_; rintro e w' ⟨rfl, rfl⟩) | (go_at_call 18; refine (a4 _).mono ?_; rintro e w' ⟨rfl, rfl⟩) | (go_at_call 12; refine (a5 _).mono ?_; rintro e w' ⟨rfl, rfl⟩) | (go_at_call 13; refine (a6 _).mono ?_; rintro e w' ⟨rfl, rfl⟩) | (go_at_call 17; refine (a7 _).mono ?_; rintro e w' ⟨rfl, rfl⟩) | (go_at_call 20; refine (a8 _).mono ?_; rintro e w' ⟨rfl, rfl⟩) | (go_at_call 7; refine (QPairRaw.sakialaw04_live.calls true _ live_true).mono ?_; rintro e w' ⟨rfl, hb⟩))
  go_ret
  exact ⟨rfl, (below_alloc (Below.refl _ _) _).trans (hb.mono (by simp))⟩
set_option maxHeartbeats 2000000 in
theorem noDA (x y : Nat) (k : Int) (Tx : Flt.Tests x true true) (nx : Int) (Nx : Flt.Near x nx true) (ly : Bool) (Ty : Flt.Tests y false ly) (hN : NoPair ⟨x, y⟩) (w : World) : Calls Try.prog 6 #[.float .f64 x, .float .f64 y, .int .i64 k] w fun e w' => e = .returned (.bool true) ∧ Below w.heap.size w w' := by
  have gx := Tx.h1
  have fx := Tx.h2
  have ex := Nx.h5
  have cx : ∀ w, (convert 47 2 (.float .f64 x)).run Try.prog w = .ok (.int .i64 nx) w := fun w => run_convert_float_int w 47 2 .f64 .i64 x nx (by rw [Try.underlying47]; rfl) Try.underlying2 Nx.h3
  have gy := Ty.h1
  have a1 := first_no _ hN
  have a2 := second_no _ hN
  have a3 := sum_no _ hN
  have a4 := times_no _ k hN
  have a5 := turn_no _ hN
  have a6 := mirror_no _ hN
  have a7 := total_no _ hN
  have a8 := least_no _ ⟨4607182418800017408, 0⟩ hN
  have o0 : (FloatKind.f64.format.order 0 0 == some Ordering.eq) = true := by kernel_rfl
  have hN := hN
  unfold NoPair at hN
  clear Tx Nx Ty
  go_enter Try.func6, Try.ntmps6
  go_wp2_with (first | (go_at_call 16; refine (hN _).mono ?_; rintro e w' ⟨rfl, rfl⟩) | (go_at_call 21; refine (a1 _).mono ?_; rintro e w' ⟨rfl, rfl⟩) | (go_at_call 22; refine (a2 _).mono ?_; rintro e w' ⟨rfl, rfl⟩) | (go_at_call 10; refine (a3 _ _ _ (row1 ⟨x, y⟩ w _)).mono ?_; rintro e w' ⟨rfl, rfl⟩) | (go_at_call 18; refine (a4 _).mono ?_; rintro e w' ⟨rfl, rfl⟩) | (go_at_call 12; refine (a5 _).mono ?_; rintro e w' ⟨rfl, rfl⟩) | (go_at_call 13; refine (a6 _).mono ?_; rintro e w' ⟨rfl, rfl⟩) | (go_at_call 17; refine (a7 _).mono ?_; rintro e w' ⟨rfl, rfl⟩) | (go_at_call 20; refine (a8 _).mono ?_; rintro e w' ⟨rfl, rfl⟩) | (go_at_call 7; refine (QPairRaw.sakialaw04_live.calls true _ live_true).mono ?_; rintro e w' ⟨rfl, hb⟩))
  go_ret
  exact ⟨rfl, (below_alloc (Below.refl _ _) _).trans (hb.mono (by simp))⟩
set_option maxHeartbeats 2000000 in
theorem noDB (x y : Nat) (k : Int) (Tx : Flt.Tests x true true) (nx : Int) (Nx : Flt.Near x nx true) (Ty : Flt.Tests y true false) (hN : NoPair ⟨x, y⟩) (w : World) : Calls Try.prog 6 #[.float .f64 x, .float .f64 y, .int .i64 k] w fun e w' => e = .returned (.bool true) ∧ Below w.heap.size w w' := by
  have gx := Tx.h1
  have fx := Tx.h2
  have ex := Nx.h5
  have cx : ∀ w, (convert 47 2 (.float .f64 x)).run Try.prog w = .ok (.int .i64 nx) w := fun w => run_convert_float_int w 47 2 .f64 .i64 x nx (by rw [Try.underlying47]; rfl) Try.underlying2 Nx.h3
  have gy := Ty.h1
  have fy := Ty.h2
  have a1 := first_no _ hN
  have a2 := second_no _ hN
  have a3 := sum_no _ hN
  have a4 := times_no _ k hN
  have a5 := turn_no _ hN
  have a6 := mirror_no _ hN
  have a7 := total_no _ hN
  have a8 := least_no _ ⟨4607182418800017408, 0⟩ hN
  have o0 : (FloatKind.f64.format.order 0 0 == some Ordering.eq) = true := by kernel_rfl
  have hN := hN
  unfold NoPair at hN
  clear Tx Nx Ty
  go_enter Try.func6, Try.ntmps6
  go_wp2_with (first | (go_at_call 16; refine (hN _).mono ?_; rintro e w' ⟨rfl, rfl⟩) | (go_at_call 21; refine (a1 _).mono ?_; rintro e w' ⟨rfl, rfl⟩) | (go_at_call 22; refine (a2 _).mono ?_; rintro e w' ⟨rfl, rfl⟩) | (go_at_call 10; refine (a3 _ _ _ (row1 ⟨x, y⟩ w _)).mono ?_; rintro e w' ⟨rfl, rfl⟩) | (go_at_call 18; refine (a4 _).mono ?_; rintro e w' ⟨rfl, rfl⟩) | (go_at_call 12; refine (a5 _).mono ?_; rintro e w' ⟨rfl, rfl⟩) | (go_at_call 13; refine (a6 _).mono ?_; rintro e w' ⟨rfl, rfl⟩) | (go_at_call 17; refine (a7 _).mono ?_; rintro e w' ⟨rfl, rfl⟩) | (go_at_call 20; refine (a8 _).mono ?_; rintro e w' ⟨rfl, rfl⟩) | (go_at_call 7; refine (QPairRaw.sakialaw04_live.calls true _ live_true).mono ?_; rintro e w' ⟨rfl, hb⟩))
  go_ret
  exact ⟨rfl, (below_alloc (Below.refl _ _) _).trans (hb.mono (by simp))⟩
set_option maxHeartbeats 2000000 in
theorem noDC (x y : Nat) (k : Int) (Tx : Flt.Tests x true true) (nx : Int) (Nx : Flt.Near x nx true) (Ty : Flt.Tests y true true) (ny : Int) (Ny : Flt.Near y ny false) (hN : NoPair ⟨x, y⟩) (w : World) : Calls Try.prog 6 #[.float .f64 x, .float .f64 y, .int .i64 k] w fun e w' => e = .returned (.bool true) ∧ Below w.heap.size w w' := by
  have gx := Tx.h1
  have fx := Tx.h2
  have ex := Nx.h5
  have cx : ∀ w, (convert 47 2 (.float .f64 x)).run Try.prog w = .ok (.int .i64 nx) w := fun w => run_convert_float_int w 47 2 .f64 .i64 x nx (by rw [Try.underlying47]; rfl) Try.underlying2 Nx.h3
  have gy := Ty.h1
  have fy := Ty.h2
  have ey := Ny.h5
  have cy : ∀ w, (convert 47 2 (.float .f64 y)).run Try.prog w = .ok (.int .i64 ny) w := fun w => run_convert_float_int w 47 2 .f64 .i64 y ny (by rw [Try.underlying47]; rfl) Try.underlying2 Ny.h3
  have a1 := first_no _ hN
  have a2 := second_no _ hN
  have a3 := sum_no _ hN
  have a4 := times_no _ k hN
  have a5 := turn_no _ hN
  have a6 := mirror_no _ hN
  have a7 := total_no _ hN
  have a8 := least_no _ ⟨4607182418800017408, 0⟩ hN
  have o0 : (FloatKind.f64.format.order 0 0 == some Ordering.eq) = true := by kernel_rfl
  have hN := hN
  unfold NoPair at hN
  clear Tx Nx Ty Ny
  go_enter Try.func6, Try.ntmps6
  go_wp2_with (first | (go_at_call 16; refine (hN _).mono ?_; rintro e w' ⟨rfl, rfl⟩) | (go_at_call 21; refine (a1 _).mono ?_; rintro e w' ⟨rfl, rfl⟩) | (go_at_call 22; refine (a2 _).mono ?_; rintro e w' ⟨rfl, rfl⟩) | (go_at_call 10; refine (a3 _ _ _ (row1 ⟨x, y⟩ w _)).mono ?_; rintro e w' ⟨rfl, rfl⟩) | (go_at_call 18; refine (a4 _).mono ?_; rintro e w' ⟨rfl, rfl⟩) | (go_at_call 12; refine (a5 _).mono ?_; rintro e w' ⟨rfl, rfl⟩) | (go_at_call 13; refine (a6 _).mono ?_; rintro e w' ⟨rfl, rfl⟩) | (go_at_call 17; refine (a7 _).mono ?_; rintro e w' ⟨rfl, rfl⟩) | (go_at_call 20; refine (a8 _).mono ?_; rintro e w' ⟨rfl, rfl⟩) | (go_at_call 7; refine (QPairRaw.sakialaw04_live.calls true _ live_true).mono ?_; rintro e w' ⟨rfl, hb⟩))
  go_ret
  exact ⟨rfl, (below_alloc (Below.refl _ _) _).trans (hb.mono (by simp))⟩

set_option maxHeartbeats 2000000 in
theorem yes (x y : Nat) (k : Int) (a b : Int) (Tx : Flt.Tests x true true) (Nx : Flt.Near x a true) (Vx : Flt.Val x a) (Ty : Flt.Tests y true true) (Ny : Flt.Near y b true) (Vy : Flt.Val y b) (w : World) :
    Calls Try.prog 6 #[.float .f64 x, .float .f64 y, .int .i64 k] w fun e w' => e = .returned (.bool true) ∧ Below w.heap.size w w' := by
  have gx := Tx.h1
  have fx := Tx.h2
  have gy := Ty.h1
  have fy := Ty.h2
  have ex := Nx.h5
  have ey := Ny.h5
  have cx : ∀ w, (convert 47 2 (.float .f64 x)).run Try.prog w = .ok (.int .i64 a) w := fun w => run_convert_float_int w 47 2 .f64 .i64 x a (by rw [Try.underlying47]; rfl) Try.underlying2 Nx.h3
  have cy : ∀ w, (convert 47 2 (.float .f64 y)).run Try.prog w = .ok (.int .i64 b) w := fun w => run_convert_float_int w 47 2 .f64 .i64 y b (by rw [Try.underlying47]; rfl) Try.underlying2 Ny.h3
  have cx3 : ∀ w, (convert 47 3 (.float .f64 x)).run Try.prog w = .ok (.int .i64 a) w := fun w => run_convert_float_int w 47 3 .f64 .i64 x a (by rw [Try.underlying47]; rfl) Try.underlying3 Nx.h3
  have cy3 : ∀ w, (convert 47 3 (.float .f64 y)).run Try.prog w = .ok (.int .i64 b) w := fun w => run_convert_float_int w 47 3 .f64 .i64 y b (by rw [Try.underlying47]; rfl) Try.underlying3 Ny.h3
  have ca : Cnt a := Nx.h6
  have cb : Cnt b := Ny.h6
  have hs : Has ⟨x, y⟩ a b := ⟨Vx, Vy, by unfold Cnt at ca; omega, by unfold Cnt at cb; omega⟩
  have a0 := whole_v ⟨x, y⟩ a b true hs (by simp [ca, cb])
  have a1 := first_v ⟨x, y⟩ a b hs
  have a2 := second_v ⟨x, y⟩ a b hs
  rw [if_pos ⟨ca, cb⟩] at a1 a2
  have hsum : sumP 0 0 [(a, b)] = (a, b) := by
    simp only [sumP, Int.zero_add]
    rw [if_pos ⟨ca, cb⟩]
  have a3 : ∀ (A : Option Addr) (cap : Nat) (w : World), (Kd.scalar Cx.v Cx.one).C w A 1 [⟨x, y⟩] → Calls Try.prog 10 #[.slice A 1 cap] w fun e w' => e = .returned (Cx.v (ofC a b)) ∧ w = w' := by
    intro A cap w hr
    have := sum_v [⟨x, y⟩] [(a, b)] ⟨rfl, fun i c p hc hp => by
      match i, hc, hp with
      | 0, hc, hp =>
        simp at hc hp
        subst hc hp
        exact ⟨hs, ca, cb⟩
      | i + 1, hc, hp => simp at hc⟩ A cap w hr (by show 1 ≤ 9223372036854775807; decide)
    rw [hsum] at this
    exact this
  have ho := has_of a b
  rw [if_pos ⟨ca, cb⟩, if_pos ⟨ca, cb⟩] at ho
  have s1 : (FloatKind.f64.format.order (ofC a b).re x == some Ordering.eq) = true := by
    rw [show FloatKind.f64.format.order (ofC a b).re x = some (compare a a) from Flt.val_order ho.1 Vx, Flt.cmp_eq]
    simp
  have s2 : (FloatKind.f64.format.order (ofC a b).im y == some Ordering.eq) = true := by
    rw [show FloatKind.f64.format.order (ofC a b).im y = some (compare b b) from Flt.val_order ho.2.1 Vy, Flt.cmp_eq]
    simp
  clear ho hsum hs ca cb Tx Ty Nx Ny Vx Vy
  generalize ofC a b = S at *
  go_enter Try.func6, Try.ntmps6
  go_wp2_with (first | (go_at_call 16; refine (a0 _).mono ?_; rintro e w' ⟨rfl, rfl⟩) | (go_at_call 21; refine (a1 _).mono ?_; rintro e w' ⟨rfl, rfl⟩) | (go_at_call 22; refine (a2 _).mono ?_; rintro e w' ⟨rfl, rfl⟩) | (go_at_call 10; refine (a3 _ _ _ (row1 ⟨x, y⟩ w _)).mono ?_; rintro e w' ⟨rfl, rfl⟩) | (go_at_call 7; refine (QPairRaw.sakialaw04_live.calls true _ live_true).mono ?_; rintro e w' ⟨rfl, hb⟩))
  go_ret
  exact ⟨rfl, (below_alloc (Below.refl _ _) _).trans (hb.mono (by simp))⟩
theorem law (x y : Nat) (k : Int) (w : World) : Calls Try.prog 6 #[.float .f64 x, .float .f64 y, .int .i64 k] w fun e w' => e = .returned (.bool true) ∧ Below w.heap.size w w' := by
  rcases Flt.raw_cases x with ⟨l, T⟩ | T | ⟨T, n, N⟩ | ⟨T, n, N, V⟩
  · exact noA x y k l T (whole_no1 _ (within_no x (.inl ⟨l, T⟩))) w
  · exact noB x y k T (whole_no1 _ (within_no x (.inr (.inl T)))) w
  · have hN : NoPair ⟨x, y⟩ := whole_no1 _ (within_no x (.inr (.inr ⟨T, n, N⟩)))
    rcases Flt.raw_cases y with ⟨l, U⟩ | U | ⟨U, _⟩ | ⟨U, _⟩
    · exact noCA x y k T n N l U hN w
    · exact noCB x y k T n N U hN w
    · exact noCC x y k T n N U hN w
    · exact noCC x y k T n N U hN w
  · rcases Flt.raw_cases y with ⟨l, U⟩ | U | ⟨U, m, M⟩ | ⟨U, m, M, Z⟩
    · exact noDA x y k T n N l U (whole_no2 ⟨x, y⟩ n V N.h6 (within_no y (.inl ⟨l, U⟩))) w
    · exact noDB x y k T n N U (whole_no2 ⟨x, y⟩ n V N.h6 (within_no y (.inr (.inl U)))) w
    · exact noDC x y k T n N U m M (whole_no2 ⟨x, y⟩ n V N.h6 (within_no y (.inr (.inr ⟨U, m, M⟩)))) w
    · exact yes x y k n m T N V U M Z w
end Go.Proofs.Ytlhodmhmbcdieaa.RawLaw
