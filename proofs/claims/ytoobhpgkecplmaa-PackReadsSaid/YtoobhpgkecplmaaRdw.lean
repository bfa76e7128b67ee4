/- Lemmas: what functions of package pack compute, by hand. No conditions but those that the theorems name. -/
import Derived.Test.YtoobhpgkecplmaaRrs
import Derived.Test.YtoobhpgkecplmaaQPackReadsx8
import Derived.WalkSmall
namespace Go.Proofs.Ytoobhpgkecplmaa.QPackReads
open Go Go.RowKit Go.Proofs.YtoobhpgkecplmaaW.PrintWords Go.Proofs.YtoobhpgkecplmaaW.PrintLast Go.Proofs.YtoobhpgkecplmaaW.PrintMore
attribute [local go_sem] max2_int min2_int max_two min_two max_three min_three max_four min_four
set_option linter.unusedVariables false
set_option linter.unusedSimpArgs false
theorem same05_loop (l : List Int) (hl : l.length ≤ 100000) (d : Nat) : ∀ (k i : Nat), i + d = l.length → d + 1 ≤ k → sakiaref05_Same.l0 k l l i = some true := by
  induction d with
  | zero =>
    intro k i hi hk
    obtain ⟨k, rfl⟩ : ∃ m, k = m + 1 := ⟨k - 1, by omega⟩
    simp only [sakiaref05_Same.l0]
    rw [if_neg (by omega)]
  | succ d ih =>
    intro k i hi hk
    obtain ⟨k, rfl⟩ : ∃ m, k = m + 1 := ⟨k - 1, by omega⟩
    simp only [sakiaref05_Same.l0]
    rw [if_pos (by omega), if_pos (by omega), if_pos (by omega), if_pos trivial, wrap_succ i (by omega)]
    exact ih k (i + 1) (by omega) (by omega)
theorem same05_refl (l : List Int) (hl : l.length ≤ 1000) (k : Nat) (hk : 1001 ≤ k) : sakiaref05_Same.f k l l = some true := by
  unfold sakiaref05_Same.f
  rw [if_pos rfl]
  exact same05_loop l (by omega) l.length k 0 (by omega) (by omega)
theorem mem_L2 {l : List (List Int)} {i : Nat} (h : i < l.length) : rd_L2 l (i : Int) ∈ l := by
  simp [rd_L2, List.getD_eq_getElem?_getD, h]
theorem mem_T54 {l : List S54} {i : Nat} (h : i < l.length) : rd_T54 l (i : Int) ∈ l := by
  simp [rd_T54, List.getD_eq_getElem?_getD, h]
theorem mem_T56 {l : List S56} {i : Nat} (h : i < l.length) : rd_T56 l (i : Int) ∈ l := by
  simp [rd_T56, List.getD_eq_getElem?_getD, h]
theorem graphs_loop (l : List (List Int)) (hl : l.length ≤ 100000) (hu : ∀ u ∈ l, u.length ≤ 1000) (d : Nat) : ∀ (k i : Nat), i + d = l.length → d + 1010 ≤ k → sakiaref10_Graphs.l0 k l l i = some true := by
  induction d with
  | zero =>
    intro k i hi hk
    obtain ⟨k, rfl⟩ : ∃ m, k = m + 1 := ⟨k - 1, by omega⟩
    simp only [sakiaref10_Graphs.l0]
    rw [if_neg (by omega)]
  | succ d ih =>
    intro k i hi hk
    obtain ⟨k, rfl⟩ : ∃ m, k = m + 1 := ⟨k - 1, by omega⟩
    simp only [sakiaref10_Graphs.l0]
    rw [if_pos (by omega), if_pos (by omega), if_pos (by omega), same05_refl _ (hu _ (mem_L2 (by omega))) k (by omega), Option.bind_some, if_pos rfl, wrap_succ i (by omega)]
    exact ih k (i + 1) (by omega) (by omega)
theorem same10_refl (a b c d p : Int) (l : List (List Int)) (hl : l.length ≤ 1000) (hu : ∀ u ∈ l, u.length ≤ 1000) (k : Nat) (hk : 3000 ≤ k) : sakiaref10_Same.f k a b c d p l a b c d p l = some true := by
  unfold sakiaref10_Same.f sakiaref10_Graphs.f
  rw [if_pos rfl, if_pos rfl, if_pos rfl, if_pos rfl, if_pos rfl, if_pos rfl]
  have := graphs_loop l (by omega) hu l.length k 0 (by omega) (by omega)
  rw [show ((0 : Nat) : Int) = 0 from rfl] at this
  rw [this, Option.bind_some]
theorem acts_loop (l : List S54) (hl : l.length ≤ 100000) (hu : ∀ u ∈ l, u.f1.f2.length ≤ 1000) (d : Nat) : ∀ (k i : Nat), i + d = l.length → d + 1010 ≤ k → sakiaref36_Acts.l0 k l l i = some true := by
  induction d with
  | zero =>
    intro k i hi hk
    obtain ⟨k, rfl⟩ : ∃ m, k = m + 1 := ⟨k - 1, by omega⟩
    simp only [sakiaref36_Acts.l0]
    rw [if_neg (by omega)]
  | succ d ih =>
    intro k i hi hk
    obtain ⟨k, rfl⟩ : ∃ m, k = m + 1 := ⟨k - 1, by omega⟩
    simp only [sakiaref36_Acts.l0]
    rw [if_pos (by omega), if_pos (by omega), if_pos (by omega), if_pos trivial, if_pos trivial, if_pos trivial, same05_refl _ (hu _ (mem_T54 (by omega))) k (by omega), Option.bind_some, if_pos rfl, wrap_succ i (by omega)]
    exact ih k (i + 1) (by omega) (by omega)
theorem acts_refl (l : List S54) (hl : l.length ≤ 5000) (hu : ∀ u ∈ l, u.f1.f2.length ≤ 1000) (k : Nat) (hk : 7000 ≤ k) : sakiaref36_Acts.f k l l = some true := by
  unfold sakiaref36_Acts.f
  rw [if_pos rfl]
  exact acts_loop l (by omega) hu l.length k 0 (by omega) (by omega)
theorem evs_loop (l : List S56) (hl : l.length ≤ 100000) (hu : ∀ u ∈ l, u.f6.length ≤ 1000) (d : Nat) : ∀ (k i : Nat), i + d = l.length → d + 1010 ≤ k → sakiaref15_Same.l0 k l l i = some true := by
  induction d with
  | zero =>
    intro k i hi hk
    obtain ⟨k, rfl⟩ : ∃ m, k = m + 1 := ⟨k - 1, by omega⟩
    simp only [sakiaref15_Same.l0]
    rw [if_neg (by omega)]
  | succ d ih =>
    intro k i hi hk
    obtain ⟨k, rfl⟩ : ∃ m, k = m + 1 := ⟨k - 1, by omega⟩
    simp only [sakiaref15_Same.l0, sakiaref15_One.f]
    rw [if_pos (by omega), if_pos (by omega), if_pos (by omega), if_pos trivial, if_pos trivial, if_pos trivial, if_pos trivial, if_pos trivial, if_pos trivial, same05_refl _ (hu _ (mem_T56 (by omega))) k (by omega), Option.bind_some, Option.bind_some, if_pos rfl, wrap_succ i (by omega)]
    exact ih k (i + 1) (by omega) (by omega)
theorem same15_refl (l : List S56) (hl : l.length ≤ 66000) (hu : ∀ u ∈ l, u.f6.length ≤ 1000) (k : Nat) (hk : 70000 ≤ k) : sakiaref15_Same.f k l l = some true := by
  unfold sakiaref15_Same.f
  rw [if_pos rfl]
  exact evs_loop l (by omega) hu l.length k 0 (by omega) (by omega)
theorem zscr_same : sakiaref10_Same.f 7000 zScr.a zScr.b zScr.c zScr.d zScr.p zScr.up zScr.a zScr.b zScr.c zScr.d zScr.p zScr.up = some true := same10_refl _ _ _ _ _ _ (by decide) (fun u hu => absurd hu (by simp [zScr])) 7000 (by omega)
theorem reads_scr {b : List Int} (hb : bytes b) (hl : b.length ≤ 2000000) : ∃ (s : Scr) (e : Int), pack_Unscript.f b = some (s, e) ∧ sakiaref10_Same.f 7000 s.a s.b s.c s.d s.p s.up s.a s.b s.c s.d s.p s.up = some true ∧ sakiaref36_Acts.f 7000 s.acts s.acts = some true := by
  refine ⟨_, _, unscript_f hb hl, ?_⟩
  cases h : unscriptP b with
  | error e => exact ⟨zscr_same, acts_refl _ (Nat.zero_le _) (fun u hu => absurd hu (by simp [outP, zScr])) 7000 (by omega)⟩
  | ok s =>
    obtain ⟨_, hf⟩ := unscriptP_sound hb h
    have h1 := hf.un
    have h2 := hf.an
    exact ⟨same10_refl _ _ _ _ _ _ (by simp only [outP]; omega) (fun u hu => by have := (hf.u u hu).1; omega) 7000 (by omega), acts_refl _ (by simp only [outP]; omega) (fun u hu => by have := (hf.s u hu).2.2.2.1; omega) 7000 (by omega)⟩
theorem reads_log {b : List Int} (hb : bytes b) (hl : b.length ≤ 2000000) : ∃ (l : List S56) (e : Int), pack_Unlog.f b = some (l, e) ∧ sakiaref15_Same.f 70000 l l = some true := by
  refine ⟨_, _, unlog_f hb hl, ?_⟩
  cases h : unlogP b with
  | error e => exact same15_refl _ (Nat.zero_le _) (fun u hu => absurd hu (by simp [outP])) 70000 (by omega)
  | ok l =>
    obtain ⟨_, h1, hf⟩ := unlogP_sound hb h
    exact same15_refl _ (by simp only [outP]; omega) (fun u hu => by have := (hf u hu).2.2.2.2.2.2.2.1; omega) 70000 (by omega)
set_option maxHeartbeats 8000000 in
set_option maxRecDepth 100000 in
theorem reads_calls (A0 : Option Addr) (c0 : Nat) (b : List Int) (w : World) (hr0 : Kd.C (Kd.int .u8) w A0 b.length b) (hc0 : b.length ≤ c0) (hb : bytes b) :
    Calls Try.prog 4 #[.slice A0 b.length c0] w fun e w' => e = .returned (.bool true) ∧ Below w.heap.size w w' := by
  have HC := Aside0.mk (fun W' (hb : Below w.heap.size w W') => Kd.C_below hr0 hb)
  have HC1 := Aside0.mk hc0
  have HB := Aside0.mk hb
  clear hr0 hc0 hb
  go_enter Try.func4, Try.ntmps4
  by_cases hlen : (b.length : Int) > 4000
  · have c13 : decide ((b.length : Int) > 4000) = true := decide_eq_true hlen
    go_wp2_with (fail)
    go_at_call 9
    (with_reducible refine (sakialaw38_live.calls true _ live_yes).mono ?_)
    rintro e w2 ⟨rfl, hbw⟩
    go_wp2_with (fail)
    go_ret
    exact ⟨rfl, hbw⟩
  have c13 : decide ((b.length : Int) > 4000) = false := decide_eq_false hlen
  obtain ⟨s, e1, hs1, hs2, hs3⟩ := reads_scr HB.out (show b.length ≤ 2000000 by omega)
  obtain ⟨l, e2, hl1, hl2⟩ := reads_log HB.out (show b.length ≤ 2000000 by omega)
  clear hlen HB
  go_wp2_with (fail)
  go_at_call 14
  (with_reducible refine (pack_Unscript.calls A0 c0 b s e1 w (HC.out _ (Below.refl _ _)) HC1.out hs1).mono ?_)
  rintro e Wa ⟨A5, A6, c5, c6, rfl, hC5, hl5, hC6, hl6, hb1⟩
  have HB1 := below_alloc hb1 (.cells #[.int .i64 s.a, .int .i64 s.b, .int .i64 s.c, .int .i64 s.d, .int .u64 s.p, .slice A5 s.up.length c5, .slice A6 s.acts.length c6] 28)
  have HK1 := blk_new Wa (.cells #[.int .i64 s.a, .int .i64 s.b, .int .i64 s.c, .int .i64 s.d, .int .u64 s.p, .slice A5 s.up.length c5, .slice A6 s.acts.length c6] 28)
  have HX5 := Kd.C_alloc hC5 (.cells #[.int .i64 s.a, .int .i64 s.b, .int .i64 s.c, .int .i64 s.d, .int .u64 s.p, .slice A5 s.up.length c5, .slice A6 s.acts.length c6] 28)
  have HX6 := Kd.C_alloc hC6 (.cells #[.int .i64 s.a, .int .i64 s.b, .int .i64 s.c, .int .i64 s.d, .int .u64 s.p, .slice A5 s.up.length c5, .slice A6 s.acts.length c6] 28)
  go_upto_region 4 with (fail)
  generalize Wa.alloc (.cells #[.int .i64 s.a, .int .i64 s.b, .int .i64 s.c, .int .i64 s.d, .int .u64 s.p, .slice A5 s.up.length c5, .slice A6 s.acts.length c6] 28) = W1 at *
  obtain ⟨gs, hgs⟩ : ∃ gs, gs = Wa.heap.size := ⟨_, rfl⟩
  rw [← hgs] at HK1
  (try rw [← hgs])
  clear hb1 hC5 hC6 hgs
  go_wp2_with (fail)
  go_at_call 15
  (with_reducible refine (sakiaref38_Unscript.calls A0 c0 b s e1 _ (HC.out _ HB1) HC1.out hs1).mono ?_)
  rintro e Wb ⟨A7, A8, c7, c8, rfl, hC7, hl7, hC8, hl8, hb2⟩
  have HB2 := below_alloc (below_step HB1 hb2) (.cells #[.int .i64 s.a, .int .i64 s.b, .int .i64 s.c, .int .i64 s.d, .int .u64 s.p, .slice A7 s.up.length c7] 25)
  have HS2 : Below W1.heap.size W1 _ := below_alloc hb2 (.cells #[.int .i64 s.a, .int .i64 s.b, .int .i64 s.c, .int .i64 s.d, .int .u64 s.p, .slice A7 s.up.length c7] 25)
  have HK2 := blk_below HK1 HS2
  have HN2 := blk_new Wb (.cells #[.int .i64 s.a, .int .i64 s.b, .int .i64 s.c, .int .i64 s.d, .int .u64 s.p, .slice A7 s.up.length c7] 25)
  have HY5 := Kd.C_below HX5 HS2
  have HY6 := Kd.C_below HX6 HS2
  have HY7 := Kd.C_alloc hC7 (.cells #[.int .i64 s.a, .int .i64 s.b, .int .i64 s.c, .int .i64 s.d, .int .u64 s.p, .slice A7 s.up.length c7] 25)
  have HY8 := Kd.C_alloc hC8 (.cells #[.int .i64 s.a, .int .i64 s.b, .int .i64 s.c, .int .i64 s.d, .int .u64 s.p, .slice A7 s.up.length c7] 25)
  go_upto_region 5 with (fail)
  generalize Wb.alloc (.cells #[.int .i64 s.a, .int .i64 s.b, .int .i64 s.c, .int .i64 s.d, .int .u64 s.p, .slice A7 s.up.length c7] 25) = W2 at *
  obtain ⟨gt, hgt⟩ : ∃ gt, gt = Wb.heap.size := ⟨_, rfl⟩
  rw [← hgt] at HN2
  (try rw [← hgt])
  clear HB1 HS2 HK1 HX5 HX6 hC7 hC8 hb2 hgt
  go_wp2_with (fail)
  go_at_call 16
  (with_reducible refine (pack_Unlog.calls A0 c0 b l e2 _ (HC.out _ HB2) HC1.out hl1).mono ?_)
  rintro e W3 ⟨v3, rfl, hS, hb3⟩
  obtain ⟨A3, c3, rfl, hlc3, hC3⟩ := Kd.R_reads (Kd.S_R hS)
  have HB3 := below_step HB2 hb3
  have HK3 := blk_below HK2 hb3
  have HN3 := blk_below HN2 hb3
  have HZ5 := Kd.C_below HY5 hb3
  have HZ6 := Kd.C_below HY6 hb3
  have HZ7 := Kd.C_below HY7 hb3
  have HZ8 := Kd.C_below HY8 hb3
  clear HB2 HK2 HN2 HY5 HY6 HY7 HY8 hb3 hS
  go_wp2_with (fail)
  go_at_call 17
  (with_reducible refine (sakiaref38_Unlog.calls A0 c0 b l e2 _ (HC.out _ HB3) HC1.out hl1).mono ?_)
  rintro e W4 ⟨v4, rfl, hS, hb4⟩
  obtain ⟨A4, c4, rfl, hlc4, hC4⟩ := Kd.R_reads (Kd.S_R hS)
  have HB4 := below_step HB3 hb4
  have HK4 := blk_below HK3 hb4
  have HN4 := blk_below HN3 hb4
  have HZ5 := Kd.C_below HZ5 hb4
  have HZ6 := Kd.C_below HZ6 hb4
  have HZ7 := Kd.C_below HZ7 hb4
  have HZ8 := Kd.C_below HZ8 hb4
  have HZ3 := Kd.C_below hC3 hb4
  clear HB3 HK3 HN3 hb4 hS hC3
  have hy0 : W4.cell? ⟨gs, 0, none⟩ = some (.int .i64 s.a) := (blk_cell HK4 0).trans rfl
  have hy1 : W4.cell? ⟨gs, 1, none⟩ = some (.int .i64 s.b) := (blk_cell HK4 1).trans rfl
  have hy2 : W4.cell? ⟨gs, 2, none⟩ = some (.int .i64 s.c) := (blk_cell HK4 2).trans rfl
  have hy3 : W4.cell? ⟨gs, 3, none⟩ = some (.int .i64 s.d) := (blk_cell HK4 3).trans rfl
  have hy4 : W4.cell? ⟨gs, 4, none⟩ = some (.int .u64 s.p) := (blk_cell HK4 4).trans rfl
  have hy5 : W4.cell? ⟨gs, 5, none⟩ = some (.slice A5 s.up.length c5) := (blk_cell HK4 5).trans rfl
  have hy6 : W4.cell? ⟨gs, 6, none⟩ = some (.slice A6 s.acts.length c6) := (blk_cell HK4 6).trans rfl
  have hz0 : W4.cell? ⟨gt, 0, none⟩ = some (.int .i64 s.a) := (blk_cell HN4 0).trans rfl
  have hz1 : W4.cell? ⟨gt, 1, none⟩ = some (.int .i64 s.b) := (blk_cell HN4 1).trans rfl
  have hz2 : W4.cell? ⟨gt, 2, none⟩ = some (.int .i64 s.c) := (blk_cell HN4 2).trans rfl
  have hz3 : W4.cell? ⟨gt, 3, none⟩ = some (.int .i64 s.d) := (blk_cell HN4 3).trans rfl
  have hz4 : W4.cell? ⟨gt, 4, none⟩ = some (.int .u64 s.p) := (blk_cell HN4 4).trans rfl
  have hz5 : W4.cell? ⟨gt, 5, none⟩ = some (.slice A7 s.up.length c7) := (blk_cell HN4 5).trans rfl
  go_wp2_with (fail)
  go_at_call 18
  (with_reducible refine (sakiaref10_Same.calls 7000 s.a s.b s.c s.d s.p A5 c5 s.up s.a s.b s.c s.d s.p A7 c7 s.up true _ HZ5 hl5 HZ7 hl7 hs2).mono ?_)
  rintro e W5 ⟨rfl, hb5⟩
  have HB5 := below_step HB4 hb5
  have HK5 := blk_below HK4 hb5
  have HZ6 := Kd.C_below HZ6 hb5
  have HZ8 := Kd.C_below HZ8 hb5
  have HZ3 := Kd.C_below HZ3 hb5
  have HZ4 := Kd.C_below hC4 hb5
  clear hy0 hy1 hy2 hy3 hy4 hy5 hy6
  clear hz0 hz1 hz2 hz3 hz4 hz5
  clear HB4 HK4 HN4 hb5 hC4 HZ5 HZ7
  have hy0 : W5.cell? ⟨gs, 0, none⟩ = some (.int .i64 s.a) := (blk_cell HK5 0).trans rfl
  have hy1 : W5.cell? ⟨gs, 1, none⟩ = some (.int .i64 s.b) := (blk_cell HK5 1).trans rfl
  have hy2 : W5.cell? ⟨gs, 2, none⟩ = some (.int .i64 s.c) := (blk_cell HK5 2).trans rfl
  have hy3 : W5.cell? ⟨gs, 3, none⟩ = some (.int .i64 s.d) := (blk_cell HK5 3).trans rfl
  have hy4 : W5.cell? ⟨gs, 4, none⟩ = some (.int .u64 s.p) := (blk_cell HK5 4).trans rfl
  have hy5 : W5.cell? ⟨gs, 5, none⟩ = some (.slice A5 s.up.length c5) := (blk_cell HK5 5).trans rfl
  have hy6 : W5.cell? ⟨gs, 6, none⟩ = some (.slice A6 s.acts.length c6) := (blk_cell HK5 6).trans rfl
  go_wp2_with (fail)
  go_at_call 19
  (with_reducible refine (sakiaref36_Acts.calls 7000 A6 c6 s.acts A8 c8 s.acts true _ HZ6 hl6 HZ8 hl8 hs3).mono ?_)
  rintro e W6 ⟨rfl, hb6⟩
  have HB6 := below_step HB5 hb6
  have HZ3 := Kd.C_below HZ3 hb6
  have HZ4 := Kd.C_below HZ4 hb6
  clear hy0 hy1 hy2 hy3 hy4 hy5 hy6
  clear HB5 HK5 hb6 HZ6 HZ8
  go_wp2_with (fail)
  go_at_call 20
  (with_reducible refine (sakiaref15_Same.calls 70000 A3 c3 l A4 c4 l true _ HZ3 hlc3 HZ4 hlc4 hl2).mono ?_)
  rintro e W7 ⟨rfl, hb7⟩
  have HB7 := below_step HB6 hb7
  clear HB6 hb7 HZ3 HZ4
  go_wp2_with (fail)
  go_at_call 9
  (with_reducible refine (sakialaw38_live.calls true _ live_yes).mono ?_)
  rintro e W8 ⟨rfl, hb8⟩
  go_wp2_with (fail)
  go_ret
  exact ⟨rfl, below_step HB7 hb8⟩
end Go.Proofs.Ytoobhpgkecplmaa.QPackReads
