/- The reference's List answers the numbers of a list of truths. No conditions but those that the theorems name. -/
import Derived.Test.YtlhheknhkjcffaaDoorLst
import Derived.Test.YtlhheknhkjcffaaDoorArr
namespace Go.Proofs.YtlhheknhkjcffaaDoor.Tz
open Go Go.RowKit Go.Proofs.YtlhheknhkjcffaaDoor.PGroupParts Go.Proofs.YtlhheknhkjcffaaDoor.Pop Go.Proofs.YtlhheknhkjcffaaDoorW.PrintWords Go.Proofs.YtlhheknhkjcffaaDoorW.PrintLast Go.Proofs.YtlhheknhkjcffaaDoorW.PrintMore
attribute [local go_sem] max2_int min2_int max_two min_two max_three min_three max_four min_four
set_option linter.unusedVariables false
set_option linter.unusedSimpArgs false
/-- the numbers of a list of truths below i, rising -/
def elems (s : List Bool) (i : Nat) : List Int := ((List.range i).filter fun j => s.getD j false).map fun j : Nat => (j : Int)
theorem elems_succ (s : List Bool) (i : Nat) : elems s (i + 1) = elems s i ++ (if s.getD i false = true then [(i : Int)] else []) := by
  unfold elems
  rw [List.range_succ, List.filter_append, List.map_append]
  cases hc : s.getD i false <;> simp only [List.filter_cons, List.filter_nil, hc] <;> rfl
theorem elems_len (s : List Bool) (i : Nat) : (elems s i).length ≤ i := by
  unfold elems
  rw [List.length_map]
  exact Nat.le_trans (List.length_filter_le _ _) (by simp)
theorem app_block {X w1 : World} {v : Value} {base : Nat} {e t : TypeId} {size k j : Nat} {xs : List Value} {cs : Array Value} {fz : Nat × Nat} (hrow : X.ownsRow base e size v k xs) (hgrow : X.grownBy w1 v.ownBlock)
    (hj : X.heap[j]? = some (.cells cs t fz)) (hte : t ≠ e) : w1.heap[j]? = some (.cells cs t fz) := by
  have hlt := (Array.getElem?_eq_some_iff.1 hj).1
  rw [hgrow.block j hlt ?_, hj]
  rcases hrow.2 with ⟨rfl, _⟩ | ⟨g, cap, cur, rfl, _, hgb, _⟩
  · simp [Value.ownBlock]
  · intro e'
    obtain rfl : j = g := by simpa [Value.ownBlock] using e'
    rw [hj] at hgb
    simp at hgb
    exact hte hgb.2.1
set_option maxRecDepth 100000 in
set_option maxHeartbeats 2000000 in
theorem listw (s : List Bool) (hs : s.length = 64) (w : World) :
    Calls Tryd.prog 21 #[.agg (bl s)] w fun e w' => ∃ v, e = .returned v ∧ w'.ownsRow w.heap.size 3 1 v (elems s 64).length (ints (elems s 64)) ∧ Below w.heap.size w w' := by
  obtain ⟨i0, hinf, hz0, hz1, hz2⟩ := info_parts info3
  have hbn := blk_new w (.cells (bl s) 30)
  have hb0 : Below w.heap.size w (w.alloc (.cells (bl s) 30)) := (Below.refl _ w).alloc (Nat.le_refl _) _
  go_enter Tryd.func21, Tryd.ntmps21
  go_wp2
  go_loopg [3, 4] 65 (fun kq v3 v4 wr => ∃ i : Nat, i ≤ 64 ∧ i + kq = 65 ∧ v4 = .int .i64 (i : Int) ∧ wr.ownsRow w.heap.size 3 1 v3 (elems s i).length (ints (elems s i)) ∧ wr.heap[w.heap.size]? = some (.cells (bl s) 30 (0, 0)) ∧ Below w.heap.size w wr)
  case atStart => exact ⟨0, by omega, by omega, rfl, World.ownsRow_nil _ _ _ _, hbn, hb0⟩
  case round =>
    obtain ⟨i, hi, hik, rfl, hrow, hbk, hbr⟩ := hrel
    by_cases h64 : i = 64
    · subst h64
      have c0 : decide (((64 : Nat) : Int) < 64) = false := by decide
      have HROW := Aside0.mk hrow
      clear hrow
      go_wp2
      go_ret
      exact ⟨_, rfl, HROW.out, hbr⟩
    · cases gk with
      | zero => omega
      | succ g =>
        have c0 : decide ((i : Int) < 64) = true := decide_eq_true (by omega)
        have hi64 : (i : Int) < 64 := by omega
        have hcell : wr.cell? ⟨w.heap.size, i, none⟩ = some (.bool (s.getD i false)) := by
          rw [blk_cell hbk]
          simp [bl, List.getD_eq_getElem?_getD, show i < s.length by omega]
        have hes := elems_succ s i
        have hel := elems_len s i
        cases hc : s.getD i false with
        | false =>
          rw [hc] at hcell hes
          rw [if_neg (by simp), List.append_nil] at hes
          rw [← hes] at hrow
          have HROW := Aside0.mk hrow
          clear hrow hes hel hc
          go_wp2
          go_roundg g
          case measure => omega
          case rel => exact ⟨i + 1, by omega, by omega, by simp, HROW.out, hbk, hbr⟩
        | true =>
          rw [hc] at hcell hes
          rw [if_pos rfl] at hes
          clear hc
          have HROW := Aside0.mk hrow
          have HES := Aside0.mk hes
          have HEL := Aside0.mk hel
          clear hrow hes hel
          go_wp2_with ((with_reducible refine gate_builtin (b := .append) (xs := #[.tmp 12, .tmp 14]) rfl ?_); at_builtin; refine print_append_num (w0 := w) w.heap.size rfl (.tmp 12) (.tmp 14) 22 3 .i64 8 rfl Tryd.underlying22 info3 (by decide) _ (elems s i) (i : Int) rfl rfl HROW.out hbr hbr.size (by have := HEL.out; omega) ?_; intro v1 w1 hown hb1 hgrow _; have hlt := (Array.getElem?_eq_some_iff.1 hbk).1; have hbk1 := app_block HROW.out hgrow hbk (by decide); have HOWN := Aside0.mk hown; clear hown hgrow)
          go_roundg g
          case measure => omega
          case rel => exact ⟨i + 1, by omega, by omega, by simp, by rw [HES.out]; exact HOWN.out, hbk1, hb1⟩
end Go.Proofs.YtlhheknhkjcffaaDoor.Tz
