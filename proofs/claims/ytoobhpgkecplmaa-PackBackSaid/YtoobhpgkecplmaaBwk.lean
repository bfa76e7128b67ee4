/- Lemmas: what functions of package pack compute, by hand. No conditions but those that the theorems name. -/
import Derived.Test.YtoobhpgkecplmaaBkp
import Derived.WalkSmall
namespace Go.Proofs.Ytoobhpgkecplmaa.QPackBack
open Go Go.RowKit Go.Proofs.YtoobhpgkecplmaaW.PrintWords Go.Proofs.YtoobhpgkecplmaaW.PrintLast Go.Proofs.YtoobhpgkecplmaaW.PrintMore
attribute [local go_sem] max2_int min2_int max_two min_two max_three min_three max_four min_four
set_option linter.unusedVariables false
set_option linter.unusedSimpArgs false
set_option maxHeartbeats 8000000 in
set_option maxRecDepth 100000 in
theorem back_calls (a0 a1 a2 a3 a4 : Int) (A5 : Option Addr) (c5 : Nat) (up : List (List Int)) (A6 : Option Addr) (c6 : Nat) (acts : List S54) (A1 : Option Addr) (c1 : Nat) (m : List S56) (w : World)
    (hr5 : Kd.C (Kd.slice 3 (Kd.int .i64)) w A5 up.length up) (hc5 : up.length ≤ c5) (hr6 : Kd.C k54 w A6 acts.length acts) (hc6 : acts.length ≤ c6) (hr1 : Kd.C k56 w A1 m.length m) (hc1 : m.length ≤ c1)
    (h0 : (i64b a0 && i64b a1 && i64b a2 && i64b a3 && decide (0 ≤ a4) && decide (a4 < 18446744073709551616)) = true) (hu : ∀ u ∈ up, ∀ n ∈ u, i64b n = true) (ha : ∀ a ∈ acts, wfA a) (he : ∀ e ∈ m, wfE e) :
    Calls Try.prog 5 #[.agg #[.int .i64 a0, .int .i64 a1, .int .i64 a2, .int .i64 a3, .int .u64 a4, .slice A5 up.length c5, .slice A6 acts.length c6], .slice A1 m.length c1] w fun e w' => e = .returned (.bool true) ∧ Below w.heap.size w w' := by
  have HR5 := Aside0.mk (fun W' (hb : Below w.heap.size w W') => Kd.C_below hr5 hb)
  have HR6 := Aside0.mk (fun W' (hb : Below w.heap.size w W') => Kd.C_below hr6 hb)
  have HR1 := Aside0.mk (fun W' (hb : Below w.heap.size w W') => Kd.C_below hr1 hb)
  have HC5 := Aside0.mk hc5
  have HC6 := Aside0.mk hc6
  have HC1 := Aside0.mk hc1
  have HG := Aside0.mk h0
  obtain ⟨bl, hbl, hfl⟩ := long_more a0 a1 a2 a3 a4 up acts hu ha
  obtain ⟨bm, hbm, hfm⟩ := logs_more m he
  have HFL := Aside0.mk hfl
  have HFM := Aside0.mk hfm
  clear hr5 hr6 hr1 hc5 hc6 hc1 h0 hu ha he hfl hfm
  go_enter Try.func5, Try.ntmps5
  go_upto_region 1 with (fail)
  have HB0 := below_alloc (Below.refl w.heap.size w) (.cells #[.int .i64 a0, .int .i64 a1, .int .i64 a2, .int .i64 a3, .int .u64 a4, .slice A5 up.length c5, .slice A6 acts.length c6] 28)
  have HK0 := blk_new w (.cells #[.int .i64 a0, .int .i64 a1, .int .i64 a2, .int .i64 a3, .int .u64 a4, .slice A5 up.length c5, .slice A6 acts.length c6] 28)
  generalize w.alloc (.cells #[.int .i64 a0, .int .i64 a1, .int .i64 a2, .int .i64 a3, .int .u64 a4, .slice A5 up.length c5, .slice A6 acts.length c6] 28) = W0 at *
  obtain ⟨gb, hgb⟩ : ∃ gb, gb = w.heap.size := ⟨_, rfl⟩
  rw [← hgb] at HK0
  (try rw [← hgb])
  clear hgb
  have hz0 : W0.cell? ⟨gb, 0, none⟩ = some (.int .i64 a0) := (blk_cell HK0 0).trans rfl
  have hz1 : W0.cell? ⟨gb, 1, none⟩ = some (.int .i64 a1) := (blk_cell HK0 1).trans rfl
  have hz2 : W0.cell? ⟨gb, 2, none⟩ = some (.int .i64 a2) := (blk_cell HK0 2).trans rfl
  have hz3 : W0.cell? ⟨gb, 3, none⟩ = some (.int .i64 a3) := (blk_cell HK0 3).trans rfl
  have hz4 : W0.cell? ⟨gb, 4, none⟩ = some (.int .u64 a4) := (blk_cell HK0 4).trans rfl
  have hz5 : W0.cell? ⟨gb, 5, none⟩ = some (.slice A5 up.length c5) := (blk_cell HK0 5).trans rfl
  have hz6 : W0.cell? ⟨gb, 6, none⟩ = some (.slice A6 acts.length c6) := (blk_cell HK0 6).trans rfl
  go_wp2_with (fail)
  go_at_call 7
  (with_reducible refine (sakialaw38_long.calls 1300 a0 a1 a2 a3 a4 A5 c5 up A6 c6 acts bl _ (HR5.out _ HB0) HC5.out (HR6.out _ HB0) HC6.out hbl).mono ?_)
  rintro e W1 ⟨rfl, hb1⟩
  have HB1 := below_step HB0 hb1
  have HK1 := blk_below HK0 hb1
  clear HB0 HK0 hb1
  clear hz0 hz1 hz2 hz3 hz4 hz5 hz6
  cases bl with
  | true =>
    go_wp2_with (fail)
    go_at_call 9
    (with_reducible refine (sakialaw38_live.calls true _ live_yes).mono ?_)
    rintro e Wl ⟨rfl, hbl⟩
    go_wp2_with (fail)
    go_ret
    exact ⟨rfl, below_step HB1 hbl⟩
  | false =>
    go_wp2_with (fail)
    go_at_call 8
    (with_reducible refine (sakialaw38_logs.calls 1300 A1 c1 m bm _ (HR1.out _ HB1) HC1.out hbm).mono ?_)
    rintro e W2 ⟨rfl, hd2⟩
    have HB2 := below_step HB1 hd2.below
    have HK2 := blk_below HK1 hd2.below
    clear HB1 HK1 hd2
    cases bm with
    | true =>
      go_wp2_with (fail)
      go_at_call 9
      (with_reducible refine (sakialaw38_live.calls true _ live_yes).mono ?_)
      rintro e Wl ⟨rfl, hbl⟩
      go_wp2_with (fail)
      go_ret
      exact ⟨rfl, below_step HB2 hbl⟩
    | false =>
      obtain ⟨k1, k2, k3⟩ := HFL.out (by trivial)
      obtain ⟨k4, k5⟩ := HFM.out (by trivial)
      have HL := Aside0.mk (back_log2 m k4 k5)
      have hS := back_script2 a0 a1 a2 a3 a4 up acts HG.out k1 k2 k3
      clear k1 k2 k3 HFL HFM hbl hbm HG
      have hz0 : W2.cell? ⟨gb, 0, none⟩ = some (.int .i64 a0) := (blk_cell HK2 0).trans rfl
      have hz1 : W2.cell? ⟨gb, 1, none⟩ = some (.int .i64 a1) := (blk_cell HK2 1).trans rfl
      have hz2 : W2.cell? ⟨gb, 2, none⟩ = some (.int .i64 a2) := (blk_cell HK2 2).trans rfl
      have hz3 : W2.cell? ⟨gb, 3, none⟩ = some (.int .i64 a3) := (blk_cell HK2 3).trans rfl
      have hz4 : W2.cell? ⟨gb, 4, none⟩ = some (.int .u64 a4) := (blk_cell HK2 4).trans rfl
      have hz5 : W2.cell? ⟨gb, 5, none⟩ = some (.slice A5 up.length c5) := (blk_cell HK2 5).trans rfl
      have hz6 : W2.cell? ⟨gb, 6, none⟩ = some (.slice A6 acts.length c6) := (blk_cell HK2 6).trans rfl
      go_wp2_with (fail)
      go_at_call 10
      rcases hS with hS | ⟨bS, hS, hf3, hf4, hf5⟩
      · (with_reducible refine (pack_Script.calls a0 a1 a2 a3 a4 A5 c5 up A6 c6 acts [] 21 _ (HR5.out _ HB2) HC5.out (HR6.out _ HB2) HC6.out hS).mono ?_)
        rintro e W3 ⟨v2, rfl, ho2, hb2⟩
        have HB3 := below_step HB2 hb2
        obtain ⟨A2, c2, rfl⟩ := Kd.R_slice ho2
        go_wp2_with (fail)
        go_at_call 12
        rcases HL.out with hS | ⟨bL, hS, hf6, hf7⟩
        · (with_reducible refine (pack_Log.calls A1 c1 m [] 21 _ (HR1.out _ HB3) HC1.out hS).mono ?_)
          rintro e Wp ⟨v5, rfl, ho5, hb5⟩
          have HBp := below_step HB3 hb5
          obtain ⟨A7, c7, rfl⟩ := Kd.R_slice ho5
          go_wp2_with (fail)
          go_at_call 9
          (with_reducible refine (sakialaw38_live.calls true _ live_yes).mono ?_)
          rintro e Wl ⟨rfl, hbl⟩
          go_wp2_with (fail)
          go_ret
          exact ⟨rfl, below_step HBp hbl⟩
        · (with_reducible refine (pack_Log.calls A1 c1 m bL 0 _ (HR1.out _ HB3) HC1.out hS).mono ?_)
          rintro e Wp ⟨v5, rfl, ho5, hb5⟩
          have HBp := below_step HB3 hb5
          obtain ⟨A7, c7, rfl, hl7, hC7⟩ := Kd.R_reads ho5
          clear ho5 hb5
          go_wp2_with (fail)
          go_at_call 16
          (with_reducible refine (pack_Unlog.calls A7 c7 bL m 0 _ hC7 hl7 hf6).mono ?_)
          rintro e Wq ⟨v6, rfl, hS6, hb6⟩
          have HBq := below_step HBp hb6
          obtain ⟨A8, c8, rfl, hl8, hC8⟩ := Kd.R_reads (Kd.S_R hS6)
          clear hS6 hb6
          go_wp2_with (fail)
          go_at_call 20
          (with_reducible refine (sakiaref15_Same.calls 70000 A1 c1 m A8 c8 m true _ (HR1.out _ HBq) HC1.out hC8 hl8 hf7).mono ?_)
          rintro e Wr ⟨rfl, hb7⟩
          have HBr := below_step HBq hb7
          go_wp2_with (fail)
          go_at_call 9
          (with_reducible refine (sakialaw38_live.calls true _ live_yes).mono ?_)
          rintro e Wl ⟨rfl, hbl⟩
          go_wp2_with (fail)
          go_ret
          exact ⟨rfl, below_step HBr hbl⟩
      · (with_reducible refine (pack_Script.calls a0 a1 a2 a3 a4 A5 c5 up A6 c6 acts bS 0 _ (HR5.out _ HB2) HC5.out (HR6.out _ HB2) HC6.out hS).mono ?_)
        rintro e W3 ⟨v2, rfl, ho2, hb2⟩
        have HB3 := below_step HB2 hb2
        have HK3 := blk_below HK2 hb2
        obtain ⟨A2, c2, rfl, hl2, hC2⟩ := Kd.R_reads ho2
        clear HB2 HK2 hb2 ho2
        clear hz0 hz1 hz2 hz3 hz4 hz5 hz6
        go_wp2_with (fail)
        go_at_call 14
        (with_reducible refine (pack_Unscript.calls A2 c2 bS _ 0 _ hC2 hl2 hf3).mono ?_)
        rintro e W4 ⟨A9, Aa, c9, ca, rfl, hC9, hl9, hCa, hla, hb4⟩
        simp only at hC9 hl9 hCa hla
        have HB4 := below_step HB3 hb4
        have HK4 := blk_below HK3 hb4
        clear HB3 HK3 hb4
        have HB5 := below_alloc HB4 (.cells #[.int .i64 a0, .int .i64 a1, .int .i64 a2, .int .i64 a3, .int .u64 a4, .slice A9 up.length c9, .slice Aa acts.length ca] 28)
        have HK5 := (blk_below HK4 (below_alloc (Below.refl _ _) (.cells #[.int .i64 a0, .int .i64 a1, .int .i64 a2, .int .i64 a3, .int .u64 a4, .slice A9 up.length c9, .slice Aa acts.length ca] 28)))
        have HN5 := blk_new W4 (.cells #[.int .i64 a0, .int .i64 a1, .int .i64 a2, .int .i64 a3, .int .u64 a4, .slice A9 up.length c9, .slice Aa acts.length ca] 28)
        have hC9' := Kd.C_alloc hC9 (.cells #[.int .i64 a0, .int .i64 a1, .int .i64 a2, .int .i64 a3, .int .u64 a4, .slice A9 up.length c9, .slice Aa acts.length ca] 28)
        have hCa' := Kd.C_alloc hCa (.cells #[.int .i64 a0, .int .i64 a1, .int .i64 a2, .int .i64 a3, .int .u64 a4, .slice A9 up.length c9, .slice Aa acts.length ca] 28)
        go_upto_region 6 with (fail)
        generalize W4.alloc (.cells #[.int .i64 a0, .int .i64 a1, .int .i64 a2, .int .i64 a3, .int .u64 a4, .slice A9 up.length c9, .slice Aa acts.length ca] 28) = W5 at *
        obtain ⟨gx, hgx⟩ : ∃ gx, gx = W4.heap.size := ⟨_, rfl⟩
        rw [← hgx] at HN5
        (try rw [← hgx])
        clear HB4 HK4 hC9 hCa hgx
        have hz0 : W5.cell? ⟨gb, 0, none⟩ = some (.int .i64 a0) := (blk_cell HK5 0).trans rfl
        have hz1 : W5.cell? ⟨gb, 1, none⟩ = some (.int .i64 a1) := (blk_cell HK5 1).trans rfl
        have hz2 : W5.cell? ⟨gb, 2, none⟩ = some (.int .i64 a2) := (blk_cell HK5 2).trans rfl
        have hz3 : W5.cell? ⟨gb, 3, none⟩ = some (.int .i64 a3) := (blk_cell HK5 3).trans rfl
        have hz4 : W5.cell? ⟨gb, 4, none⟩ = some (.int .u64 a4) := (blk_cell HK5 4).trans rfl
        have hz5 : W5.cell? ⟨gb, 5, none⟩ = some (.slice A5 up.length c5) := (blk_cell HK5 5).trans rfl
        have hz6 : W5.cell? ⟨gb, 6, none⟩ = some (.slice A6 acts.length c6) := (blk_cell HK5 6).trans rfl
        have hy0 : W5.cell? ⟨gx, 0, none⟩ = some (.int .i64 a0) := (blk_cell HN5 0).trans rfl
        have hy1 : W5.cell? ⟨gx, 1, none⟩ = some (.int .i64 a1) := (blk_cell HN5 1).trans rfl
        have hy2 : W5.cell? ⟨gx, 2, none⟩ = some (.int .i64 a2) := (blk_cell HN5 2).trans rfl
        have hy3 : W5.cell? ⟨gx, 3, none⟩ = some (.int .i64 a3) := (blk_cell HN5 3).trans rfl
        have hy4 : W5.cell? ⟨gx, 4, none⟩ = some (.int .u64 a4) := (blk_cell HN5 4).trans rfl
        have hy5 : W5.cell? ⟨gx, 5, none⟩ = some (.slice A9 up.length c9) := (blk_cell HN5 5).trans rfl
        have hy6 : W5.cell? ⟨gx, 6, none⟩ = some (.slice Aa acts.length ca) := (blk_cell HN5 6).trans rfl
        go_wp2_with (fail)
        go_at_call 18
        (with_reducible refine (sakiaref10_Same.calls 7000 a0 a1 a2 a3 a4 A5 c5 up a0 a1 a2 a3 a4 A9 c9 up true _ (HR5.out _ HB5) HC5.out hC9' hl9 hf4).mono ?_)
        rintro e W6 ⟨rfl, hb6⟩
        have HB6 := below_step HB5 hb6
        have HK6 := blk_below HK5 hb6
        have HN6 := blk_below HN5 hb6
        have hCa6 := Kd.C_below hCa' hb6
        clear HB5 HK5 HN5 hC9' hCa' hb6
        clear hz0 hz1 hz2 hz3 hz4 hz5 hz6
        clear hy0 hy1 hy2 hy3 hy4 hy5 hy6
        have hz0 : W6.cell? ⟨gb, 0, none⟩ = some (.int .i64 a0) := (blk_cell HK6 0).trans rfl
        have hz1 : W6.cell? ⟨gb, 1, none⟩ = some (.int .i64 a1) := (blk_cell HK6 1).trans rfl
        have hz2 : W6.cell? ⟨gb, 2, none⟩ = some (.int .i64 a2) := (blk_cell HK6 2).trans rfl
        have hz3 : W6.cell? ⟨gb, 3, none⟩ = some (.int .i64 a3) := (blk_cell HK6 3).trans rfl
        have hz4 : W6.cell? ⟨gb, 4, none⟩ = some (.int .u64 a4) := (blk_cell HK6 4).trans rfl
        have hz5 : W6.cell? ⟨gb, 5, none⟩ = some (.slice A5 up.length c5) := (blk_cell HK6 5).trans rfl
        have hz6 : W6.cell? ⟨gb, 6, none⟩ = some (.slice A6 acts.length c6) := (blk_cell HK6 6).trans rfl
        have hy0 : W6.cell? ⟨gx, 0, none⟩ = some (.int .i64 a0) := (blk_cell HN6 0).trans rfl
        have hy1 : W6.cell? ⟨gx, 1, none⟩ = some (.int .i64 a1) := (blk_cell HN6 1).trans rfl
        have hy2 : W6.cell? ⟨gx, 2, none⟩ = some (.int .i64 a2) := (blk_cell HN6 2).trans rfl
        have hy3 : W6.cell? ⟨gx, 3, none⟩ = some (.int .i64 a3) := (blk_cell HN6 3).trans rfl
        have hy4 : W6.cell? ⟨gx, 4, none⟩ = some (.int .u64 a4) := (blk_cell HN6 4).trans rfl
        have hy5 : W6.cell? ⟨gx, 5, none⟩ = some (.slice A9 up.length c9) := (blk_cell HN6 5).trans rfl
        have hy6 : W6.cell? ⟨gx, 6, none⟩ = some (.slice Aa acts.length ca) := (blk_cell HN6 6).trans rfl
        go_wp2_with (fail)
        go_at_call 19
        (with_reducible refine (sakiaref36_Acts.calls 7000 A6 c6 acts Aa ca acts true _ (HR6.out _ HB6) HC6.out hCa6 hla hf5).mono ?_)
        rintro e W7 ⟨rfl, hb7⟩
        have HB7 := below_step HB6 hb7
        clear HK6 HN6 hCa6 hb7 HB6
        clear hz0 hz1 hz2 hz3 hz4 hz5 hz6
        clear hy0 hy1 hy2 hy3 hy4 hy5 hy6
        go_wp2_with (fail)
        go_at_call 12
        rcases HL.out with hS | ⟨bL, hS, hf6, hf7⟩
        · (with_reducible refine (pack_Log.calls A1 c1 m [] 21 _ (HR1.out _ HB7) HC1.out hS).mono ?_)
          rintro e Wp ⟨v5, rfl, ho5, hb5⟩
          have HBp := below_step HB7 hb5
          obtain ⟨A7, c7, rfl⟩ := Kd.R_slice ho5
          go_wp2_with (fail)
          go_at_call 9
          (with_reducible refine (sakialaw38_live.calls true _ live_yes).mono ?_)
          rintro e Wl ⟨rfl, hbl⟩
          go_wp2_with (fail)
          go_ret
          exact ⟨rfl, below_step HBp hbl⟩
        · (with_reducible refine (pack_Log.calls A1 c1 m bL 0 _ (HR1.out _ HB7) HC1.out hS).mono ?_)
          rintro e Wp ⟨v5, rfl, ho5, hb5⟩
          have HBp := below_step HB7 hb5
          obtain ⟨A7, c7, rfl, hl7, hC7⟩ := Kd.R_reads ho5
          clear ho5 hb5
          go_wp2_with (fail)
          go_at_call 16
          (with_reducible refine (pack_Unlog.calls A7 c7 bL m 0 _ hC7 hl7 hf6).mono ?_)
          rintro e Wq ⟨v6, rfl, hS6, hb6⟩
          have HBq := below_step HBp hb6
          obtain ⟨A8, c8, rfl, hl8, hC8⟩ := Kd.R_reads (Kd.S_R hS6)
          clear hS6 hb6
          go_wp2_with (fail)
          go_at_call 20
          (with_reducible refine (sakiaref15_Same.calls 70000 A1 c1 m A8 c8 m true _ (HR1.out _ HBq) HC1.out hC8 hl8 hf7).mono ?_)
          rintro e Wr ⟨rfl, hb7⟩
          have HBr := below_step HBq hb7
          go_wp2_with (fail)
          go_at_call 9
          (with_reducible refine (sakialaw38_live.calls true _ live_yes).mono ?_)
          rintro e Wl ⟨rfl, hbl⟩
          go_wp2_with (fail)
          go_ret
          exact ⟨rfl, below_step HBr hbl⟩
end Go.Proofs.Ytoobhpgkecplmaa.QPackBack
