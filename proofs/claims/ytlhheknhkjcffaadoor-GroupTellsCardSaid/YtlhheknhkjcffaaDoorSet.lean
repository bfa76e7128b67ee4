/- The reference's Set answers the truths of a word. No conditions but those that the theorems name. -/
import Derived.Test.YtlhheknhkjcffaaDoorArr
namespace Go.Proofs.YtlhheknhkjcffaaDoor.Tz
open Go Go.RowKit Go.Proofs.YtlhheknhkjcffaaDoor.PGroupParts Go.Proofs.YtlhheknhkjcffaaDoor.Pop Go.Proofs.YtlhheknhkjcffaaDoorW.PrintWords Go.Proofs.YtlhheknhkjcffaaDoorW.PrintLast Go.Proofs.YtlhheknhkjcffaaDoorW.PrintMore
attribute [local go_sem] max2_int min2_int max_two min_two max_three min_three max_four min_four
set_option linter.unusedVariables false
set_option linter.unusedSimpArgs false
/-- the first truths of a word -/
def some_ (x i : Nat) : List Bool := (List.range 64).map fun j => decide (j < i) && x.testBit j
def bitsOf (x : Nat) : List Bool := (List.range 64).map fun j => x.testBit j
theorem some_len (x i : Nat) : (some_ x i).length = 64 := by simp [some_]
theorem bitsOf_len (x : Nat) : (bitsOf x).length = 64 := by simp [bitsOf]
theorem some_zero (x : Nat) : some_ x 0 = zer := by
  apply List.ext_getElem
  · simp [some_, zer]
  · intro j h1 h2
    rw [show (zer[j]'h2) = false from List.getElem_replicate ..]
    simp only [some_, List.getElem_map, Nat.not_lt_zero, decide_false, Bool.false_and]
theorem some_all (x : Nat) : some_ x 64 = bitsOf x := by
  apply List.ext_getElem
  · simp [some_, bitsOf]
  · intro j h1 h2
    have : j < 64 := by simpa [some_] using h1
    simp [some_, bitsOf, this]
theorem some_step (x i : Nat) (hi : i < 64) : (some_ x i).set i (x.testBit i) = some_ x (i + 1) := by
  apply List.ext_getElem
  · simp [some_]
  · intro j h1 h2
    rw [List.getElem_set]
    split
    · rename_i h
      subst h
      simp [some_]
    · rename_i h
      simp only [some_, List.getElem_map, List.getElem_range]
      by_cases hj : j < i
      · simp [hj, show j < i + 1 by omega]
      · simp [hj, show ¬ j < i + 1 by omega]
set_option maxRecDepth 100000 in
set_option maxHeartbeats 2000000 in
theorem setw (x : Nat) (hx : x < 2 ^ 64) (w : World) :
    Calls Tryd.prog 20 #[.int .u64 (x : Int)] w fun e w' => e = .returned (.agg (bl (bitsOf x))) ∧ Below w.heap.size w w' := by
  have hbn := blk_new w (.cells (bl zer) 30)
  have hbn2 := blk_new (w.alloc (.cells (bl zer) 30)) (.cells (bl zer) 30)
  rw [World.size_alloc] at hbn2
  have hbn1 : ((w.alloc (.cells (bl zer) 30)).alloc (.cells (bl zer) 30)).heap[w.heap.size]? = some (.cells (bl zer) 30 (0, 0)) := (Below.heap_alloc _ _ _ (by simp)).trans hbn
  have hb0 : Below w.heap.size w ((w.alloc (.cells (bl zer) 30)).alloc (.cells (bl zer) 30)) := ((Below.refl _ w).alloc (Nat.le_refl _) _).alloc (by simp) _
  go_enter Tryd.func20, Tryd.ntmps20
  go_wp2_with (first
    | (refine gate_ (.alloc 30) rfl ?_; refine wp_alloc30 rfl rfl ?_; try simp only [World.size_alloc])
    | (refine gate_ (.build 30 #[]) rfl ?_; refine wp_build30 rfl rfl ?_)
    | (refine gate_ (.store 30 (.tmp 3) (.tmp 5)) rfl ?_; refine wp_store30 rfl rfl _ _ rfl (w.heap.size + 1) zer zer rfl rfl hbn2 zer_len zer_len hb0 (by omega) ?_; intro W1 hh1 hb1 ho1))
  have hn1 := (ho1 w.heap.size (by omega)).trans hbn1
  go_loopg [0, 4] 65 (fun kq v0 v4 wr => ∃ i : Nat, i ≤ 64 ∧ i + kq = 65 ∧ v0 = .int .u64 ((x / 2 ^ i : Nat) : Int) ∧ v4 = .int .i64 (i : Int) ∧ wr.heap[w.heap.size + 1]? = some (.cells (bl (some_ x i)) 30 (0, 0)) ∧ wr.heap[w.heap.size]? = some (.cells (bl zer) 30 (0, 0)) ∧ Below w.heap.size w wr)
  case atStart => exact ⟨0, by omega, by omega, by simp, rfl, by rw [some_zero]; exact hh1, hn1, hb1⟩
  case round =>
    obtain ⟨i, hi, hik, rfl, rfl, hbk, hbz, hbr⟩ := hrel
    by_cases h64 : i = 64
    · subst h64
      have c0 : decide (((64 : Nat) : Int) < 64) = false := by decide
      go_wp2_with (first
        | (refine gate_ (.load 30 (.tmp 3)) rfl ?_; refine wp_load30 rfl _ rfl (w.heap.size + 1) (some_ x 64) rfl hbk (some_len x 64) ?_)
        | (refine gate_ (.store 30 (.tmp 2) (.tmp 17)) rfl ?_; refine wp_store30 rfl rfl _ _ rfl w.heap.size zer (some_ x 64) rfl rfl hbz zer_len (some_len x 64) hbr (Nat.le_refl _) ?_; intro W2 hh2 hb2 ho2))
      have hu : Tryd.prog.underlying 30 = some (.array 64 4) := by kernel_rfl
      refine bodyPost_ret (results_cell_row rfl _ _ w.heap.size 30 (bl (some_ x 64)) (0, 0) _ rfl hh2 hu rfl (size30 _ (some_len x 64))) rfl ?_
      exact ⟨by rw [some_all], hb2⟩
    · cases gk with
      | zero => omega
      | succ g =>
        have c0 : decide ((i : Int) < 64) = true := decide_eq_true (by omega)
        have hi64 : (i : Int) < 64 := by omega
        have hbit : (((x / 2 ^ i : Nat) : Int) % 2 == 1) = x.testBit i := by
          rw [Nat.testBit_eq_decide_div_mod_eq]
          generalize x / 2 ^ i = y
          by_cases h : y % 2 = 1
          · rw [decide_eq_true h, beq_iff_eq]
            omega
          · rw [decide_eq_false h, beq_eq_false_iff_ne]
            omega
        have hhalf : x / 2 ^ (i + 1) = x / 2 ^ i / 2 := by rw [Nat.pow_succ, Nat.div_div_eq_div_mul]
        have hfz := blk_frozen hbk i
        have hput := blk_put hbk i (.bool (x.testBit i)) (cs' := bl (some_ x (i + 1))) (by rw [← some_step x i (by omega)]; simp [bl, List.map_set])
        have hcell : wr.cell? ⟨w.heap.size + 1, i, none⟩ = some (.bool ((some_ x i).getD i false)) := by
          rw [blk_cell hbk]
          simp [bl, List.getD_eq_getElem?_getD, some_len, show i < 64 by omega]
        have hy : x / 2 ^ i < 2 ^ 64 := Nat.lt_of_le_of_lt (Nat.div_le_self _ _) hx
        have HZ : Aside0 (x / 2 ^ (i + 1) = x / 2 ^ i / 2) := Aside0.mk hhalf
        clear hhalf
        generalize x / 2 ^ i = y at *
        have hw : IntKind.u64.wrap ((y : Int) / 2) = (y : Int) / 2 := by rw [wrap_u64]; omega
        go_wp2
        go_roundg g
        case measure => omega
        case rel =>
          exact ⟨i + 1, by omega, by omega, by rw [HZ.out]; simp, by simp, hput, (Below.heap_setCell _ ⟨w.heap.size + 1, i, none⟩ _ _ (by simp)).trans hbz, hbr.setCell (by simp) _⟩
end Go.Proofs.YtlhheknhkjcffaaDoor.Tz
