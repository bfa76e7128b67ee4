/- List answers the numbers of a group, rising, in a row of its own. No conditions but those that the theorems name. -/
import Derived.Test.YtlhheknhkjcffaaDoorAll
import Derived.RangeFuncBox
import Derived.RangeFuncNested
import Derived.RangeFuncBound
import Derived.RangeFuncCalls
import Derived.RangeFuncLeaves
import Derived.Shelf.Abstract
import Derived.Shelf.RegionOpen
import Derived.OwnWalkIn
import Derived.TacticsInMore
import Derived.LoopNIn
import Derived.LoopIn
namespace Go.Proofs.YtlhheknhkjcffaaDoor.Tz
open Go Go.RowKit Go.Shelf Go.Proofs.YtlhheknhkjcffaaDoor.PGroupParts Go.Proofs.YtlhheknhkjcffaaDoor.Pop Go.Proofs.YtlhheknhkjcffaaDoorW.PrintWords Go.Proofs.YtlhheknhkjcffaaDoorW.PrintLast Go.Proofs.YtlhheknhkjcffaaDoorW.PrintMore
attribute [local go_sem] max2_int min2_int max_two min_two max_three min_three max_four min_four
attribute [local go_sem] Oper.semAt_some
set_option linter.unusedVariables false
set_option linter.unusedSimpArgs false
set_option maxHeartbeats 1000000 in
theorem all31 (x : Int) (k : Nat) (w : World) :
    CallsIn Fence.wide k Tryd.prog 31 #[.int .u64 x] w fun e w' => e = .returned (.func (.func 32) #[] #[.pointer (some ⟨w.heap.size, 0, none⟩)]) ∧ w' = w.alloc (.cells #[.int .u64 x] 25) := by
  refine callsIn_of_wp Tryd.func31 rfl trivial ?_ rfl
  simp only [Tryd.ntmps31, List.size_toArray, List.length_cons, List.length_nil, Nat.reduceAdd, Nat.reduceSub, Array.replicate_succ, Array.replicate_zero, List.push_toArray, List.append_toArray, List.nil_append, List.cons_append]
  gi_wp2
  go_ret
  exact ⟨rfl, rfl⟩
theorem all_stops (Bn : Nat) (x : Nat) (hx : x < 2 ^ 64) (w : World) (hT : Tab w) (hB0 : w.heap[Bn]? = some (.cells #[.int .u64 (x : Int)] 25 (0, 0))) :
    SeqStopsK Fence.wide 3 Tryd.prog 32 #[.pointer (some ⟨Bn, 0, none⟩)] (fun y : Int => #[Value.int .i64 y]) (KB Bn) (fun ys => ys = upto x 64) (fun pre => pre <+: upto x 64) 64 w := fun l J Jx W hW hJ _ hY h0 =>
  all32 l Bn x hx J Jx (fun pre A B hs hg => hJ pre A B none hs hg (fun r e => by cases e)) hY W (hT.of_block (hW.block 0 hT.pos)) ((hW.block Bn (Array.getElem?_eq_some_iff.1 hB0).1).trans hB0) h0
theorem info3 : (Tryd.prog.info? 3).map (fun i => (i.zero, i.size, i.bytes)) = some (some (.int .i64 0), 1, 8) := by kernel_rfl
def ints (l : List Int) : List Value := l.map fun n => .int .i64 n
theorem cell_one_new (w : World) (x : Value) (t : TypeId) : ∀ j u, [x][j]? = some u → (w.alloc (.cells #[x] t)).cell? ((⟨w.heap.size, 0, none⟩ : Addr).add j) = some u := by
  have h := World.alloc_heap_new w (.cells #[x] t)
  intro j u hj
  match j, hj with
  | 0, hj => simp at hj; subst hj; exact (cell_of_row _ _ 0 _ _ _ h).trans rfl
  | n + 1, hj => simp at hj
theorem app_keeps {X w1 : World} {tmp : Obj} {v : Value} {base : Nat} {e t : TypeId} {size k j B : Nat} {xs : List Value} {cs : Array Value} {fz : Nat × Nat} (u : Value) (hrow : X.ownsRow base e size v k xs) (hgrow : (X.alloc tmp).grownBy w1 v.ownBlock)
    (hj : X.heap[j]? = some (.cells cs t fz)) (hte : t ≠ e) (hjB : j ≠ B) : (w1.setCell ⟨B, 0, none⟩ u).heap[j]? = X.heap[j]? := by
  have hlt := (Array.getElem?_eq_some_iff.1 hj).1
  rw [Below.heap_setCell _ _ _ _ hjB, hgrow.block j (by simp; omega) ?_, Below.heap_alloc _ _ _ hlt]
  rcases hrow.2 with ⟨rfl, _⟩ | ⟨g, cap, cur, rfl, _, hgb, _⟩
  · simp [Value.ownBlock]
  · intro e'
    obtain rfl : j = g := by simpa [Value.ownBlock] using e'
    rw [hj] at hgb
    simp at hgb
    exact hte hgb.2.1
set_option maxRecDepth 100000 in
set_option maxHeartbeats 4000000 in
theorem list27 (x : Nat) (hx : x < 2 ^ 64) (w : World) (hT : Tab w) :
    Calls Tryd.prog 27 #[.int .u64 (x : Int)] w fun e w' => ∃ v, e = .returned v ∧ w'.ownsRow w.heap.size 3 1 v (upto x 64).length (ints (upto x 64)) ∧ Below w.heap.size w w' := by
  obtain ⟨i0, hi, hz0, hz1, hz2⟩ := info_parts info3
  refine (callsIn_wide (n := 4)).1 ?_
  refine callsIn_of_wp_marks Tryd.func27 rfl trivial ?_ rfl
  simp only [Tryd.ntmps27, List.size_toArray, List.length_cons, List.length_nil, Nat.reduceAdd, Nat.reduceSub, Array.replicate_succ, Array.replicate_zero, List.push_toArray, List.append_toArray, List.nil_append, List.cons_append]
  gi_wp2_with (refine ⟨trivial, ?_⟩; gi_at_call 31; refine (all31 x _ _).mono ?_; rintro e W3 ⟨rfl, rfl⟩)
  obtain ⟨W3, hW3⟩ : ∃ W3, w.alloc (.cells #[.slice none 0 0] 22) = W3 := ⟨_, rfl⟩
  have hs3 : W3.heap.size = w.heap.size + 1 := by rw [← hW3]; simp
  have bO : Boxed W3 w.heap.size 22 (.slice none 0 0) := by rw [← hW3]; exact Boxed.new w 22 _
  have hBW3 : Below w.heap.size w W3 := by rw [← hW3]; exact (Below.refl _ w).alloc (Nat.le_refl _) _
  rw [hW3]
  have bN : (W3.alloc (.cells #[.int .u64 (x : Int)] 25)).heap[W3.heap.size]? = some (.cells #[.int .u64 (x : Int)] 25 (0, 0)) := World.alloc_heap_new W3 _
  have hp := hT.pos
  have hBW4 : Below w.heap.size w (W3.alloc (.cells #[.int .u64 (x : Int)] 25)) := hBW3.alloc (by omega) _
  have hT4 : Tab (W3.alloc (.cells #[.int .u64 (x : Int)] 25)) := hT.below hp hBW4
  rw [hs3] at bN
  refine wpIn_rangeFunc_ownG rfl (by omega) (gf := 32) (lb := #[.pointer (some ⟨(w.heap.size + 1), 0, none⟩)]) rfl trivial (enters_of Tryd.func32 (by kernel_rfl) rfl)
    (all_stops (w.heap.size + 1) x hx _ hT4 bN) KB_t (KB_b (by simp; omega)) (Below.refl _ _) (fun _ => rfl)
    (fun pre W => (∃ v, Boxed W w.heap.size 22 v ∧ W.ownsRow w.heap.size 3 1 v pre.length (ints pre) ∧ True) ∧ Below w.heap.size w W ∧ W.heap[(w.heap.size + 1)]? = some (.cells #[.int .u64 (x : Int)] 25 (0, 0)))
    (fun _ _ _ => False)
    ?own
    (fun _ _ _ _ _ hs _ _ => hs)
    ⟨⟨_, bO.alloc _, World.ownsRow_nil _ _ _ _, trivial⟩, hBW4, bN⟩
    (fun y => { tmps := #[.int .u64 (x : Int), undef, .slice none 0 0, .pointer (some ⟨w.heap.size, 0, none⟩), .int .i64 y, .int .u64 (x : Int), .func (.func 32) #[] #[.pointer (some ⟨w.heap.size + 1, 0, none⟩)], .int .i64 y, undef, undef, undef, undef, undef], defers := [] }) ?assign ?body ?done ?stop
  case assign =>
    intro l y W K hK
    gi_wp2
    exact hK
  case body =>
    rintro l pre y W ⟨⟨v, hv, hrow, _⟩, hBW, hBn⟩ hlt
    have hc0 := hv.cell
    have hf0 := hv.frozen
    obtain ⟨A, cp, rfl⟩ : ∃ A cp, v = .slice A pre.length cp := by
      rcases hrow.2 with ⟨rfl, h0⟩ | ⟨g, cp, cur, rfl, _⟩
      · exact ⟨none, 0, by rw [h0]⟩
      · exact ⟨_, _, rfl⟩
    gi_wp2_with (gi_at_builtin; refine wpListIn_append_own _ rfl _ _ 22 rfl w.heap.size 3 i0 (.int .i64 0) 1 8 Tryd.underlying22 hi hz0 hz1 hz2 rfl (by decide) _ _ _ rfl (hrow.alloc _) ⟨W.heap.size, 0, none⟩ 1 1 [.int .i64 y] rfl rfl (cell_one_new _ _ _) (by simp [Value.oneCell']) (by unfold maxLen; omega) (by omega) (by have := hBW.size; simp; omega) ?_; intro v' w1 hown' hgrow _; have hbn := app_keeps v' hrow hgrow hBn (by decide) (show w.heap.size + 1 ≠ w.heap.size by omega); obtain ⟨g', cap', rfl⟩ := ownsRow_succ hown'; obtain ⟨hv1, hv2, hr2, hk3, hb3⟩ := hv.appended (by decide) hrow hBW.size (Nat.le_refl _) hown' hgrow; have hc1 := hv1.cell; have hf1 := hv1.frozen)
    exact ⟨hk3.from _, ⟨hbn, hb3.block 0 hp⟩, ⟨_, hv2, by simpa [ints] using hr2, trivial⟩, hBW.trans hb3, hbn.trans hBn⟩
  case own =>
    refine OwnFrom.and (Own.from (holdsRow_own _ _ _ _ _ _ _ _) _) (OwnFrom.and (ownFrom_below (Nat.le_refl _) (by simp; omega)) ?_)
    exact fun s X Y row hs hg hr => (hg.block _ (Array.getElem?_eq_some_iff.1 hs).1 (fun e => by have := (hr _ e.symm).1; simp at this; omega)).trans hs
  case done =>
    rintro D ys W hD rfl ⟨⟨v, hv, hrow, _⟩, hBW, hBn⟩ hK
    have hc0 := hv.cell
    gi_wp2
    refine ⟨by simp, .inl ⟨_, _, rfl, run_takeDeferred hK, ?_⟩⟩
    exact ⟨_, results_tmp rfl _ _ _, _, rfl, ownsRow_putObj hrow _ hK rfl, hBW.trans (belowK_b (w := w) (Nat.le_refl _) W D _ _ (by simp at hD; omega) hK rfl rfl)⟩
  case stop =>
    rintro D c pre W _ _ h
    exact h.elim
end Go.Proofs.YtlhheknhkjcffaaDoor.Tz
