/- The law SpanMeets answers true for every input. No conditions but those that the theorems name. -/
import Derived.Test.YtbgbhoidchdjmaaMts
import Derived.Test.YtbgbhoidchdjmaaMtp
namespace Go.Proofs.Ytbgbhoidchdjmaa.QSpanMeets
open Go Go.RowKit Go.Proofs.YtbgbhoidchdjmaaW.PrintWords Go.Proofs.YtbgbhoidchdjmaaW.PrintLast Go.Proofs.YtbgbhoidchdjmaaW.PrintMore Go.Proofs.Ytbgbhoidchdjmaa.Ivs
attribute [local go_sem] max2_int min2_int max_two min_two max_three min_three max_four min_four
set_option linter.unusedVariables false
set_option linter.unusedSimpArgs false
set_option maxRecDepth 100000 in
set_option maxHeartbeats 4000000 in
theorem meets_out (n m x y : Int) (w : World) (h : n < 0 ∨ m < 0 ∨ 60 < n ∨ 60 < m) :
    Calls Try.prog 5 #[.int .i64 n, .int .i64 m, .agg #[.int .u64 x, .int .u64 y]] w fun e w' => e = .returned (.bool true) ∧ Below w.heap.size w w' := by
  have hb0 : Below w.heap.size w (w.alloc (.cells #[.int .u64 x, .int .u64 y] 48)) := (Below.refl _ w).alloc (Nat.le_refl _) _
  by_cases c1 : n < 0
  · have d1 : decide (n < 0) = true := decide_eq_true c1
    clear c1 h
    go_enter Try.func5, Try.ntmps5
    go_wp2_with (go_at_call 7; refine (sakialaw03_live.calls true _ live_true).mono ?_; rintro e w10 ⟨rfl, hbl⟩)
    go_ret
    exact ⟨rfl, hb0.trans (hbl.mono hb0.size)⟩
  · have d1 : decide (n < 0) = false := decide_eq_false c1
    by_cases c2 : m < 0
    · have d2 : decide (m < 0) = true := decide_eq_true c2
      clear c1 c2 h
      go_enter Try.func5, Try.ntmps5
      go_wp2_with (go_at_call 7; refine (sakialaw03_live.calls true _ live_true).mono ?_; rintro e w10 ⟨rfl, hbl⟩)
      go_ret
      exact ⟨rfl, hb0.trans (hbl.mono hb0.size)⟩
    · have d2 : decide (m < 0) = false := decide_eq_false c2
      by_cases c3 : 60 < n
      · have d3 : decide (60 < n) = true := decide_eq_true c3
        clear c1 c2 c3 h
        go_enter Try.func5, Try.ntmps5
        go_wp2_with (go_at_call 7; refine (sakialaw03_live.calls true _ live_true).mono ?_; rintro e w10 ⟨rfl, hbl⟩)
        go_ret
        exact ⟨rfl, hb0.trans (hbl.mono hb0.size)⟩
      · have d3 : decide (60 < n) = false := decide_eq_false c3
        have d4 : decide (60 < m) = true := decide_eq_true (by omega)
        clear c1 c2 c3 h
        go_enter Try.func5, Try.ntmps5
        go_wp2_with (go_at_call 7; refine (sakialaw03_live.calls true _ live_true).mono ?_; rintro e w10 ⟨rfl, hbl⟩)
        go_ret
        exact ⟨rfl, hb0.trans (hbl.mono hb0.size)⟩
theorem wf_u64 {a : Int} (h : (Lit.int .u64 a).wf = true) : 0 ≤ a ∧ a < 18446744073709551616 := by
  have e1 : IntKind.u64.min = 0 := rfl
  have e2 : IntKind.u64.max = 18446744073709551615 := rfl
  simp only [Lit.wf, Bool.and_eq_true, decide_eq_true_eq, e1, e2] at h
  omega
theorem mod_mod (x g n : Int) (M : Int) : (x % M - g % M) % M = (x - g) % M := by rw [← Int.sub_emod]
theorem meets_law (n m x y : Int) (w : World) (w0 : (Lit.int .i64 n).wf = true) (w1 : (Lit.int .i64 m).wf = true) (w2 : (Lit.int .u64 x).wf = true) (w3 : (Lit.int .u64 y).wf = true) :
    Calls Try.prog 5 #[.int .i64 n, .int .i64 m, .agg #[.int .u64 x, .int .u64 y]] w fun e w' => e = .returned (.bool true) ∧ Below w.heap.size w w' := by
  have hx := wf_u64 w2
  have hy := wf_u64 w3
  by_cases h : n < 0 ∨ m < 0 ∨ 60 < n ∨ 60 < m
  · exact meets_out n m x y w h
  · have hn0 : 0 ≤ n := by omega
    have hn1 : n ≤ 60 := by omega
    have hm0 : 0 ≤ m := by omega
    have hm1 : m ≤ 60 := by omega
    obtain ⟨N, rfl⟩ : ∃ N : Nat, n = N := ⟨n.toNat, by omega⟩
    obtain ⟨M, rfl⟩ : ∃ M : Nat, m = M := ⟨m.toNat, by omega⟩
    have hs : ∀ z k, sakialaw03_small.f z k = some (z % 4294967296, k) := fun z k => rfl
    have hg : ∀ z k, sakialaw03_great.f z k = some (z, k) := fun z k => rfl
    have hpp : (y % 4294967296 = (x % 4294967296 + (N : Int)) % 4294967296) ↔ ((x + (N : Int)) % 4294967296 = y % 4294967296) := by
      rw [Int.emod_add_emod]
      exact ⟨fun e => e.symm, fun e => e.symm⟩
    have hj := join32 (x % 4294967296) N (y % 4294967296) M hn0 hn1 hm0 hm1
    have hm2 := mt_comm 4294967296 (x % 4294967296) N (y % 4294967296) M
    by_cases hjb : (x + (N : Int)) % 4294967296 = y % 4294967296
    · rw [if_pos (hpp.2 hjb)] at hj
      exact meets_walk 501 N M x y (x % 4294967296) (y % 4294967296) (x % 4294967296) (y % 4294967296) _ _ _ _ _ true w hn0 hn1 hm0 hm1 ⟨hs _ _⟩ ⟨hs _ _⟩ ⟨hg _ _⟩ ⟨hg _ _⟩ ⟨cut32 x hx.1⟩ ⟨cut32 y hy.1⟩
        ⟨meets32 500 _ _ _ _ hn0 hn1 hm0 hm1⟩ ⟨refmeets 32 4294967296 _ _ (by omega) plus32 N M (by omega) (by omega) 501 (by omega)⟩ ⟨by rw [hm2]; exact meets32 500 _ _ _ _ hm0 hm1 hn0 hn1⟩
        ⟨meets64 500 _ _ _ _ hn0 hn1 hm0 hm1⟩ ⟨refmeets 64 18446744073709551616 _ _ (by omega) plus64 N M (by omega) (by omega) 501 (by omega)⟩ ⟨hj⟩ ⟨plus32 x N⟩ ⟨by rw [beq_iff_eq]; exact hjb⟩ ⟨by rw [if_pos rfl]; exact ⟨rfl, rfl⟩⟩ ⟨live_true⟩
    · rw [if_neg (fun e => hjb (hpp.1 e))] at hj
      exact meets_walk 501 N M x y (x % 4294967296) (y % 4294967296) (x % 4294967296) (y % 4294967296) _ _ _ _ _ false w hn0 hn1 hm0 hm1 ⟨hs _ _⟩ ⟨hs _ _⟩ ⟨hg _ _⟩ ⟨hg _ _⟩ ⟨cut32 x hx.1⟩ ⟨cut32 y hy.1⟩
        ⟨meets32 500 _ _ _ _ hn0 hn1 hm0 hm1⟩ ⟨refmeets 32 4294967296 _ _ (by omega) plus32 N M (by omega) (by omega) 501 (by omega)⟩ ⟨by rw [hm2]; exact meets32 500 _ _ _ _ hm0 hm1 hn0 hn1⟩
        ⟨meets64 500 _ _ _ _ hn0 hn1 hm0 hm1⟩ ⟨refmeets 64 18446744073709551616 _ _ (by omega) plus64 N M (by omega) (by omega) 501 (by omega)⟩ ⟨hj⟩ ⟨plus32 x N⟩ ⟨by rw [beq_eq_false_iff_ne]; exact hjb⟩ ⟨by rw [if_neg (by simp)]; exact ⟨rfl, rfl⟩⟩ ⟨live_true⟩
end Go.Proofs.Ytbgbhoidchdjmaa.QSpanMeets
