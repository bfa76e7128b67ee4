/- The law GroupTells answers true for every two numbers. No conditions but those that the theorems name. -/
import Derived.Test.YtlhheknhkjcffaaDoorWalk
import Derived.Test.YtlhheknhkjcffaaDoorRefList
import Derived.Test.YtlhheknhkjcffaaDoorTellsPure
import Derived.RangeFuncBox
import Derived.RangeFuncNested
import Derived.RangeFuncBound
import Derived.RangeFuncCalls
import Derived.RangeFuncLeaves
import Derived.Shelf.Abstract
import Derived.Shelf.RegionOpen
import Derived.OwnWalkIn
import Derived.TacticsInMore
import Derived.LoopNIn
import Derived.LoopIn
import Derived.Deep.MidRow
namespace Go.Proofs.YtlhheknhkjcffaaDoor.Tz
open Go Go.RowKit Go.Proofs.YtlhheknhkjcffaaDoor.PGroupParts Go.Proofs.YtlhheknhkjcffaaDoor.Pop Go.Proofs.YtlhheknhkjcffaaDoorW.PrintWords Go.Proofs.YtlhheknhkjcffaaDoorW.PrintLast Go.Proofs.YtlhheknhkjcffaaDoorW.PrintMore
attribute [local go_sem] max2_int min2_int max_two min_two max_three min_three max_four min_four
set_option linter.unusedVariables false
set_option linter.unusedSimpArgs false
theorem exec_alloc30 {o : Oper} {ev : Operand → Value} (ho : o.op = .alloc 30) (W : World) : (execOp ev o).run Tryd.prog W = .ok (.value (.pointer (some ⟨W.heap.size, 0, none⟩))) (W.alloc (.cells (bl zer) 30)) := by
  have hrun : (Instr.alloc 30 true (.tuple #[])).run Tryd.prog W = .ok (.pointer (some ⟨W.heap.size, 0, none⟩)) (W.alloc (.cells (bl zer) 30)) := by
    unfold Instr.alloc
    simp [run_zero30, newVar, newRow, Value.cells, go_sem]
    rfl
  unfold execOp
  simp only [ho, Sem.run_bind, Sem.run_pure, Result.andThen_ok, hrun]
theorem exec_store30 {o : Oper} {ev : Operand → Value} (x y : Operand) (ho : o.op = .store 30 x y) {W : World} {g : Nat} {s s' : List Bool} (hx : ev x = .pointer (some ⟨g, 0, none⟩)) (hy : ev y = .agg (bl s'))
    (hh : W.heap[g]? = some (.cells (bl s) 30 (0, 0))) (hs : s.length = 64) (hs' : s'.length = 64) : (execOp ev o).run Tryd.prog W = .ok .skip (W.setCells g 0 (bl s').toList) := by
  have hsz : (bl s').size = (bl s).size := by rw [bl_size, bl_size, hs, hs']
  have hrun := run_store_run (P := Tryd.prog) (o := 0) 30 (.agg (bl s')) (bl s').toList hh rfl (by rw [Array.length_toList]; exact size30 s' hs') (by rw [Array.length_toList]; omega) (bl_one s')
  unfold execOp
  simp only [ho, hx, hy, Sem.run_bind, Sem.run_pure, Result.andThen_ok, hrun]
theorem setCells30 {W : World} {g : Nat} {s s' : List Bool} (hh : W.heap[g]? = some (.cells (bl s) 30 (0, 0))) (hs : s.length = 64) (hs' : s'.length = 64) : (W.setCells g 0 (bl s').toList).heap[g]? = some (.cells (bl s') 30 (0, 0)) := by
  have := setCells_all (g := g) (t := 30) (bl s').toList [] (bl s).toList W (by simpa using hh) (by simp only [Array.length_toList]; rw [bl_size, bl_size, hs, hs'])
  simpa using this
theorem range_of_below {W3 w' : World} {g : Nat} {s : List Bool} (h : W3.heap[g]? = some (.cells (bl s) 30 (0, 0))) (hb : Below W3.heap.size W3 w') : w'.rangeAt g 0 (s.map Value.bool) :=
  range_blk ((hb.block g (Array.getElem?_eq_some_iff.1 h).1).trans h)
/-- region 3: two variables are made and filled, in either order -/
@[reducible] def S3 (W3 : World) (g6 : Nat) (s : List Bool) (w' : World) : Prop := w'.rangeAt g6 0 (s.map Value.bool) ∧ Below W3.heap.size W3 w'
theorem S3.mk' {W3 : World} {g6 : Nat} {s : List Bool} {w' : World} (h : W3.heap[g6]? = some (.cells (bl s) 30 (0, 0))) (hb : Below W3.heap.size W3 w') : S3 W3 g6 s w' := ⟨range_of_below h hb, hb⟩
def KT (W3 : World) (g8 g9 : Nat) (a b : List Bool) (w' : World) : Prop := Below W3.heap.size W3 w' ∧ w'.heap[g8]? = some (.cells (bl a) 30 (0, 0)) ∧ w'.heap[g9]? = some (.cells (bl b) 30 (0, 0))
def F3 (W3 : World) (s : List Bool) (p : Nat × Nat) (w' : World) : Prop := W3.heap.size ≤ p.1 ∧ W3.heap.size ≤ p.2 ∧ p.1 ≠ p.2 ∧ KT W3 p.1 p.2 s s w'
theorem two_made {W3 W : World} {g1 g2 : Nat} {s : List Bool} (hs : s.length = 64) (hb : Below W3.heap.size W3 W) (h1 : W.heap[g1]? = some (.cells (bl zer) 30 (0, 0))) (h2 : W.heap[g2]? = some (.cells (bl zer) 30 (0, 0)))
    (l1 : W3.heap.size ≤ g1) (l2 : W3.heap.size ≤ g2) (ne : g1 ≠ g2) :
    Below W3.heap.size W3 (W.setCells g1 0 (bl s).toList) ∧ (W.setCells g1 0 (bl s).toList).heap[g2]? = some (.cells (bl zer) 30 (0, 0)) ∧ F3 W3 s (g1, g2) ((W.setCells g1 0 (bl s).toList).setCells g2 0 (bl s).toList) := by
  have b1 := below_setCells (bl s).toList 0 W hb l1
  have e2 : (W.setCells g1 0 (bl s).toList).heap[g2]? = some (.cells (bl zer) 30 (0, 0)) := (setCells_other ne.symm _ 0 W).trans h2
  have e1 := setCells30 h1 zer_len hs
  exact ⟨b1, e2, l1, l2, ne, below_setCells _ 0 _ b1 l2, (setCells_other ne _ 0 _).trans e1, setCells30 e2 zer_len hs⟩
theorem blk_two {W3 W : World} (hb : Below W3.heap.size W3 W) : Below W3.heap.size W3 ((W.alloc (.cells (bl zer) 30)).alloc (.cells (bl zer) 30)) ∧ ((W.alloc (.cells (bl zer) 30)).alloc (.cells (bl zer) 30)).heap[W.heap.size]? = some (.cells (bl zer) 30 (0, 0)) ∧ ((W.alloc (.cells (bl zer) 30)).alloc (.cells (bl zer) 30)).heap[W.heap.size + 1]? = some (.cells (bl zer) 30 (0, 0)) := by
  have h1 := blk_new W (.cells (bl zer) 30)
  have h2 := blk_new (W.alloc (.cells (bl zer) 30)) (.cells (bl zer) 30)
  rw [World.size_alloc] at h2
  exact ⟨(hb.alloc hb.size _).alloc (by simp; have := hb.size; omega) _, (Below.heap_alloc _ _ _ (by simp)).trans h1, h2⟩
theorem KT.next {W3 : World} {g8 g9 : Nat} {a b : List Bool} {w1 w2 : World} (h : KT W3 g8 g9 a b w1) (hb : Below w1.heap.size w1 w2) : KT W3 g8 g9 a b w2 :=
  ⟨h.1.trans (hb.mono h.1.size), (hb.block g8 (Array.getElem?_eq_some_iff.1 h.2.1).1).trans h.2.1, (hb.block g9 (Array.getElem?_eq_some_iff.1 h.2.2).1).trans h.2.2⟩
@[reducible] def S6 (W3 : World) (g6 g8 g9 : Nat) (s a b : List Bool) (j : Nat) (c : Bool) (w' : World) : Prop := w'.rangeAt g8 0 (a.map Value.bool) ∧ w'.rangeAt g9 0 (b.map Value.bool) ∧ w'.cell? ⟨g6, j, none⟩ = some (.bool c) ∧ (W3.heap[g6]? = some (.cells (bl s) 30 (0, 0)) ∧ s.length = 64 ∧ j < 64 ∧ s.getD j false = c ∧ KT W3 g8 g9 a b w')
theorem S6.mk' {W3 : World} {g6 g8 g9 : Nat} {s a b : List Bool} {j : Nat} {c : Bool} {w' : World} (h6 : W3.heap[g6]? = some (.cells (bl s) 30 (0, 0))) (hs : s.length = 64) (hj : j < 64) (hc : s.getD j false = c) (h : KT W3 g8 g9 a b w') : S6 W3 g6 g8 g9 s a b j c w' := by
  refine ⟨range_blk h.2.1, range_blk h.2.2, ?_, h6, hs, hj, hc, h⟩
  rw [blk_cell ((h.1.block g6 (Array.getElem?_eq_some_iff.1 h6).1).trans h6), ← hc]
  simp [bl, List.getD_eq_getElem?_getD, show j < s.length by omega]
theorem S6.next {W3 : World} {g6 g8 g9 : Nat} {s a b : List Bool} {j : Nat} {c : Bool} {w1 w2 : World} (hb : Below w1.heap.size w1 w2) (h : S6 W3 g6 g8 g9 s a b j c w1) : S6 W3 g6 g8 g9 s a b j c w2 := by
  obtain ⟨_, _, _, h1, h2, h3, h4, h5⟩ := h
  exact S6.mk' h1 h2 h3 h4 (h5.next hb)
set_option maxRecDepth 100000 in
set_option maxHeartbeats 8000000 in
theorem tells (x : Nat) (hx : x < 2 ^ 64) (i : Int) (w : World) (hT : Tab w) :
    Calls Tryd.prog 6 #[.int .u64 (x : Int), .int .i64 i] w fun e w' => e = .returned (.bool true) ∧ Below w.heap.size w w' := by
  have hp := hT.pos
  obtain ⟨s, hse⟩ : ∃ s, bitsOf x = s := ⟨_, rfl⟩
  have hs : s.length = 64 := by rw [← hse]; exact bitsOf_len x
  have hset := setw x hx
  rw [hse] at hset
  obtain ⟨L, hLe⟩ : ∃ L, elems s 64 = L := ⟨_, rfl⟩
  have hlw := listw s hs
  simp only [hLe] at hlw
  have hle : L.length ≤ 64 := by rw [← hLe]; exact elems_len s 64
  have hE : upto x 64 = L := by rw [← hLe, ← hse, elems_upto x 64 (Nat.le_refl _)]
  have HE := Aside0.mk hE
  clear hLe hE
  go_enter Tryd.func6, Tryd.ntmps6
  go_wp2_with (first
    | (go_at_call 20; refine (hset _).mono ?_; rintro e W1 ⟨rfl, hb1⟩; have hn1 := blk_new W1 (.cells (bl zer) 30); have hB1 : Below w.heap.size w (W1.alloc (.cells (bl zer) 30)) := hb1.alloc hb1.size _)
    | (refine gate_ (.alloc 30) rfl ?_; refine wp_alloc30 rfl rfl ?_; try simp only [World.size_alloc])
    | (refine gate_ (.store 30 (.tmp 6) (.tmp 17)) rfl ?_; refine wp_store30 rfl rfl _ _ rfl W1.heap.size zer s rfl rfl hn1 zer_len hs hB1 hb1.size ?_; intro W2 hh2 hb2 ho2)
    | (refine gate_ (.load 30 (.tmp 6)) rfl ?_; refine wp_load30 rfl _ rfl W1.heap.size s rfl hh2 hs ?_)
    | (go_at_call 21; refine (hlw _).mono ?_; rintro e W3 ⟨v, rfl, hown, hb3w⟩; obtain ⟨A7, c7, rfl, hc7, hC7⟩ := C_of_own hown rfl; have hb3 := hb2.trans (hb3w.mono hb2.size); have hh3 := (hb3w.block W1.heap.size (Array.getElem?_eq_some_iff.1 hh2).1).trans hh2))
  have hC := Aside0.mk hC7
  clear hC7 hown hB1 hn1 hh2 ho2 hb3w
  refine start_ (n := 6) (S := S3 W3 W1.heap.size s) (ds := []) #[false, false, false, false, false, false] (by kernel_rfl) rfl rfl (S3.mk' hh3 (draw_below W3)) (fun hS => ?_)
  generalize W3.drew = W4 at hS ⊢
  refine take_ (i := 0) (N := some 20) (a' := ?_) #[true, false, false, false, false, false] rfl rfl (by kernel_rfl) (fun _ _ _ h => h) (yieldsIf_load_mid (by rfl) 30 (.tmp 6) rfl _ _ rfl (s.map Value.bool) (.array 64 4) (fun w hw => hw.1) und30 rfl (siz30 _ hs)) hS ?_ ?_
  rotate_left
  · simp only [Act.put, List.setIfInBounds_toArray, List.set_cons_zero, List.set_cons_succ]
    rfl
  refine take_ (i := 1) (N := some 21) (a' := ?_) #[true, true, false, false, false, false] rfl rfl (by kernel_rfl) (fun _ _ _ h => h) (yieldsIf_load_mid (by rfl) 30 (.tmp 6) rfl _ _ rfl (s.map Value.bool) (.array 64 4) (fun w hw => hw.1) und30 rfl (siz30 _ hs)) hS ?_ ?_
  rotate_left
  · simp only [Act.put, List.setIfInBounds_toArray, List.set_cons_zero, List.set_cons_succ]
    rfl
  refine join_ (σ := Nat × Nat) 0 #[true, true, true, true, true, true] (fun p => [(8, .pointer (some ⟨p.1, 0, none⟩)), (9, .pointer (some ⟨p.2, 0, none⟩))]) (F3 W3 s) ?_ ?_
  rotate_left
  · intro hcont
    obtain ⟨hbt, hz1, hz2⟩ := blk_two hS.2
    refine two_ (i := 2) (j := 3) (Ni := some 8) (Nj := some 9) #[true, true, true, false, false, false] #[true, true, false, true, false, false] rfl rfl rfl rfl (by kernel_rfl) (by simp) (by simp) (fun K hK => ?_) (fun K hK => ?_)
    · obtain ⟨hb1', hz2', hF⟩ := two_made hs hbt hz1 hz2 hS.2.size (by have := hS.2.size; omega) (by omega)
      refine value_ (by rfl) rfl (exec_alloc30 rfl _) ?_
      refine hK.out _ _ (S3.mk' hh3 (hS.2.alloc hS.2.size _)) (fun _ => ?_)
      clear hK K
      refine one_ (i := 3) (N := some 9) #[true, true, true, true, false, false] rfl rfl (by kernel_rfl) (by simp) (fun K hK => ?_)
      refine value_ (by rfl) rfl (exec_alloc30 rfl _) ?_
      rw [World.size_alloc]
      refine hK.out _ _ (S3.mk' hh3 hbt) (fun _ => ?_)
      clear hK K
      refine one_ (i := 4) (N := none) #[true, true, true, true, true, false] rfl rfl (by kernel_rfl) (by simp) (fun K hK => ?_)
      refine skip_ (by rfl) rfl (exec_store30 (.tmp 8) (.tmp 20) rfl (g := W4.heap.size) (s' := s) rfl rfl hz1 zer_len hs) ?_
      refine hK.out _ _ (S3.mk' hh3 hb1') (fun _ => ?_)
      clear hK K
      refine one_ (i := 5) (N := none) #[true, true, true, true, true, true] rfl rfl (by kernel_rfl) (by simp) (fun K hK => ?_)
      refine skip_ (by rfl) rfl (exec_store30 (.tmp 9) (.tmp 21) rfl (g := W4.heap.size + 1) (s' := s) rfl rfl hz2' zer_len hs) ?_
      refine hK.out _ _ (S3.mk' hh3 hF.2.2.2.1) (fun _ => ?_)
      exact hcont (W4.heap.size, W4.heap.size + 1) _ hF
    · obtain ⟨hb1', hz2', hF⟩ := two_made hs hbt hz2 hz1 (by have := hS.2.size; omega) hS.2.size (by omega)
      refine value_ (by rfl) rfl (exec_alloc30 rfl _) ?_
      refine hK.out _ _ (S3.mk' hh3 (hS.2.alloc hS.2.size _)) (fun _ => ?_)
      clear hK K
      refine one_ (i := 2) (N := some 8) #[true, true, true, true, false, false] rfl rfl (by kernel_rfl) (by simp) (fun K hK => ?_)
      refine value_ (by rfl) rfl (exec_alloc30 rfl _) ?_
      rw [World.size_alloc]
      refine hK.out _ _ (S3.mk' hh3 hbt) (fun _ => ?_)
      clear hK K
      refine one_ (i := 4) (N := none) #[true, true, true, true, true, false] rfl rfl (by kernel_rfl) (by simp) (fun K hK => ?_)
      refine skip_ (by rfl) rfl (exec_store30 (.tmp 8) (.tmp 20) rfl (g := W4.heap.size + 1) (s' := s) rfl rfl hz2 zer_len hs) ?_
      refine hK.out _ _ (S3.mk' hh3 hb1') (fun _ => ?_)
      clear hK K
      refine one_ (i := 5) (N := none) #[true, true, true, true, true, true] rfl rfl (by kernel_rfl) (by simp) (fun K hK => ?_)
      refine skip_ (by rfl) rfl (exec_store30 (.tmp 9) (.tmp 21) rfl (g := W4.heap.size) (s' := s) rfl rfl hz2' zer_len hs) ?_
      refine hK.out _ _ (S3.mk' hh3 hF.2.2.2.1) (fun _ => ?_)
      exact hcont (W4.heap.size + 1, W4.heap.size) _ hF
  · rintro ⟨g8, g9⟩ w4 ⟨l8, l9, ne, hK4⟩
    refine norm_ (a' := ?_) ?_ ?_
    rotate_left
    · simp only [Go.Proofs.YtlhheknhkjcffaaDoorW.PrintLast.putAll, Act.put, List.setIfInBounds_toArray, List.set_cons_zero, List.set_cons_succ]
      rfl
    refine done_ (by kernel_rfl) ?_
    have hin := inw i
    have hlen : group_Group_Len.f (x : Int) = some ((L.length : Nat) : Int) := by
      rw [len_is x hx, ← upto_pc, HE.out]
    clear hS hset hlw
    cases hb : inB i with
    | true =>
      obtain ⟨y, rfl, hy⟩ := inB_nat hb
      rw [hb] at hin
      have hsa : (s.set y true).length = 64 := by simp [hs]
      have hsb : (s.set y false).length = 64 := by simp [hs]
      have hhas := has_yes x hx y hy
      rw [← bitsOf_get x y hy, hse] at hhas
      have hwith := with_is s hs y hy
      have hwout := without_yes s hs y hy
      have hwx : wv s = x := by rw [← hse]; exact wv_bitsOf x hx
      rw [hwx] at hwith hwout
      clear hb hwx
      have hy64 : (y : Int) < 64 := by omega
      have hy0 : (0 : Int) ≤ (y : Int) := by omega
      go_wp2_with (go_at_call 22; refine (hin _).mono ?_; rintro e w5 ⟨rfl, hd⟩; have hK5 := hK4.next hd.below; have hc8 : w5.cell? ⟨g8, y, none⟩ = some (.bool (s.getD y false)) := (by rw [blk_cell hK5.2.1]; simp [bl, List.getD_eq_getElem?_getD, show y < s.length by omega]); have hf8 := blk_frozen hK5.2.1 y; have hp8 := blk_put hK5.2.1 y (.bool true) (cs' := bl (s.set y true)) (by simp [bl, List.map_set]); have h9 : (w5.setCell ⟨g8, y, none⟩ (.bool true)).heap[g9]? = some (.cells (bl s) 30 (0, 0)) := (Below.heap_setCell _ ⟨g8, y, none⟩ _ _ ne.symm).trans hK5.2.2; have hc9 : (w5.setCell ⟨g8, y, none⟩ (.bool true)).cell? ⟨g9, y, none⟩ = some (.bool (s.getD y false)) := (by rw [blk_cell h9]; simp [bl, List.getD_eq_getElem?_getD, show y < s.length by omega]); have hf9 := blk_frozen h9 y; have hp9 := blk_put h9 y (.bool false) (cs' := bl (s.set y false)) (by simp [bl, List.map_set]))
      have hK7 : KT W3 g8 g9 (s.set y true) (s.set y false) ((w5.setCell ⟨g8, y, none⟩ (.bool true)).setCell ⟨g9, y, none⟩ (.bool false)) := ⟨(hK5.1.setCell l8 _).setCell l9 _, (Below.heap_setCell _ ⟨g9, y, none⟩ _ _ ne).trans hp8, hp9⟩
      generalize (w5.setCell ⟨g8, y, none⟩ (.bool true)).setCell ⟨g9, y, none⟩ (.bool false) = w7 at hK7 ⊢
      obtain ⟨c, hc⟩ : ∃ c, s.getD y false = c := ⟨_, rfl⟩
      rw [hc] at hhas
      have hS0 := S6.mk' (j := y) hh3 hs hy hc (hK7.next (draw_below w7))
      have hn1 : ¬ (63 < (y : Int)) := by omega
      have hn2 : ¬ ((y : Int) < 0) := by omega
      clear hc
      clear hc8 hf8 hp8 h9 hc9 hf9 hp9 hK4 hK5 hd
      refine start_ (n := 36) (S := S6 W3 W1.heap.size g8 g9 s (s.set y true) (s.set y false) y c) (ds := []) #[false, false, false, false, false, false, false, false, false, false, false, false, false, false, false, false, false, false, false, false, false, false, false, false, false, false, false, false, false, false, false, false, false, false, false, false] (by kernel_rfl) rfl rfl hS0 (fun hS => ?_)
      refine pure_ (i := 0) (N := some 28) (v := ?_) (a' := ?_) #[true, false, false, false, false, false, false, false, false, false, false, false, false, false, false, false, false, false, false, false, false, false, false, false, false, false, false, false, false, false, false, false, false, false, false, false] rfl rfl (by kernel_rfl) (fun _ _ _ h => h) (Or.inl ⟨by rfl, ?_⟩) ?_ ?_
      rotate_left
      · intro w'
        go_simp
        try (with_reducible rfl)
      rotate_left
      · simp only [Act.put, List.setIfInBounds_toArray, List.set_cons_zero, List.set_cons_succ]
        rfl
      refine pure_ (i := 1) (N := some 29) (v := ?_) (a' := ?_) #[true, true, false, false, false, false, false, false, false, false, false, false, false, false, false, false, false, false, false, false, false, false, false, false, false, false, false, false, false, false, false, false, false, false, false, false] rfl rfl (by kernel_rfl) (fun _ _ _ h => h) (Or.inl ⟨by rfl, ?_⟩) ?_ ?_
      rotate_left
      · intro w'
        go_simp
        try (with_reducible rfl)
      rotate_left
      · simp only [Act.put, List.setIfInBounds_toArray, List.set_cons_zero, List.set_cons_succ]
        rfl
      refine pure_ (i := 3) (N := some 31) (v := ?_) (a' := ?_) #[true, true, false, true, false, false, false, false, false, false, false, false, false, false, false, false, false, false, false, false, false, false, false, false, false, false, false, false, false, false, false, false, false, false, false, false] rfl rfl (by kernel_rfl) (fun _ _ _ h => h) (Or.inl ⟨by rfl, ?_⟩) ?_ ?_
      rotate_left
      · intro w'
        go_simp
        try (with_reducible rfl)
      rotate_left
      · simp only [Act.put, List.setIfInBounds_toArray, List.set_cons_zero, List.set_cons_succ]
        rfl
      refine one_ (i := 2) (N := some 30) #[true, true, true, true, false, false, false, false, false, false, false, false, false, false, false, false, false, false, false, false, false, false, false, false, false, false, false, false, false, false, false, false, false, false, false, false] rfl rfl (by kernel_rfl) (by simp) (fun K hK => ?_)
      refine goes_ Tryd.func13 (by kernel_rfl) rfl #[.int .u64 (x : Int), .int .i64 (y : Int)] (by rfl) rfl rfl (by (try simp only [List.map_toArray, List.map_cons, List.map_nil]); first | done | rfl) ?_
      refine (PGroupTells.group_Group_Has.calls (x : Int) (y : Int) _ _ hhas).mono ?_
      rintro e w' ⟨rfl, hdx⟩
      refine ⟨_, rfl, ?_⟩
      replace hS := S6.next hdx.below hS
      refine hK.out _ _ hS (fun _ => ?_)
      clear hK K
      refine norm_ (a' := ?_) ?_ ?_
      rotate_left
      · simp only [Act.put, List.setIfInBounds_toArray, List.set_cons_zero, List.set_cons_succ]
        rfl
      refine one_ (i := 4) (N := some 32) #[true, true, true, true, true, false, false, false, false, false, false, false, false, false, false, false, false, false, false, false, false, false, false, false, false, false, false, false, false, false, false, false, false, false, false, false] rfl rfl (by kernel_rfl) (by simp) (fun K hK => ?_)
      refine goes_ Tryd.func22 (by kernel_rfl) rfl #[.int .i64 (y : Int)] (by rfl) rfl rfl (by (try simp only [List.map_toArray, List.map_cons, List.map_nil]); first | done | rfl) ?_
      refine (hin _).mono ?_
      rintro e w' ⟨rfl, hdx⟩
      refine ⟨_, rfl, ?_⟩
      replace hS := S6.next hdx.below hS
      refine hK.out _ _ hS (fun _ => ?_)
      clear hK K
      refine norm_ (a' := ?_) ?_ ?_
      rotate_left
      · simp only [Act.put, List.setIfInBounds_toArray, List.set_cons_zero, List.set_cons_succ]
        rfl
      refine pure_ (i := 5) (N := some 33) (v := ?_) (a' := ?_) #[true, true, true, true, true, true, false, false, false, false, false, false, false, false, false, false, false, false, false, false, false, false, false, false, false, false, false, false, false, false, false, false, false, false, false, false] rfl rfl (by kernel_rfl) (fun _ _ _ h => h) (Or.inl ⟨by rfl, ?_⟩) ?_ ?_
      rotate_left
      · intro w'
        go_simp
        try (with_reducible rfl)
      rotate_left
      · simp only [Act.put, List.setIfInBounds_toArray, List.set_cons_zero, List.set_cons_succ]
        rfl
      refine pure_ (i := 6) (N := some 34) (v := ?_) (a' := ?_) #[true, true, true, true, true, true, true, false, false, false, false, false, false, false, false, false, false, false, false, false, false, false, false, false, false, false, false, false, false, false, false, false, false, false, false, false] rfl rfl (by kernel_rfl) (fun _ _ _ h => h) (Or.inl ⟨by rfl, ?_⟩) ?_ ?_
      rotate_left
      · intro w'
        go_simp
        try (with_reducible rfl)
      rotate_left
      · simp only [Act.put, List.setIfInBounds_toArray, List.set_cons_zero, List.set_cons_succ]
        rfl
      refine pure_ (i := 7) (N := some 35) (v := ?_) (a' := ?_) #[true, true, true, true, true, true, true, true, false, false, false, false, false, false, false, false, false, false, false, false, false, false, false, false, false, false, false, false, false, false, false, false, false, false, false, false] rfl rfl (by kernel_rfl) (fun _ _ _ h => h) (Or.inl ⟨by rfl, ?_⟩) ?_ ?_
      rotate_left
      · intro w'
        go_simp
        try (with_reducible rfl)
      rotate_left
      · simp only [Act.put, List.setIfInBounds_toArray, List.set_cons_zero, List.set_cons_succ]
        rfl
      refine pure_ (i := 8) (N := some 36) (v := ?_) (a' := ?_) #[true, true, true, true, true, true, true, true, true, false, false, false, false, false, false, false, false, false, false, false, false, false, false, false, false, false, false, false, false, false, false, false, false, false, false, false] rfl rfl (by kernel_rfl) (fun _ _ _ h => h) (Or.inl ⟨by rfl, ?_⟩) ?_ ?_
      rotate_left
      · intro w'
        go_simp
        try (with_reducible rfl)
      rotate_left
      · simp only [Act.put, List.setIfInBounds_toArray, List.set_cons_zero, List.set_cons_succ]
        rfl
      refine pure_ (i := 9) (N := some 37) (v := ?_) (a' := ?_) #[true, true, true, true, true, true, true, true, true, true, false, false, false, false, false, false, false, false, false, false, false, false, false, false, false, false, false, false, false, false, false, false, false, false, false, false] rfl rfl (by kernel_rfl) (fun _ _ _ h => h) (Or.inl ⟨by rfl, ?_⟩) ?_ ?_
      rotate_left
      · intro w'
        go_simp
        try (with_reducible rfl)
      rotate_left
      · simp only [Act.put, List.setIfInBounds_toArray, List.set_cons_zero, List.set_cons_succ]
        rfl
      refine take_ (i := 10) (N := some 38) (v := ?_) (a' := ?_) #[true, true, true, true, true, true, true, true, true, true, true, false, false, false, false, false, false, false, false, false, false, false, false, false, false, false, false, false, false, false, false, false, false, false, false, false] rfl rfl (by kernel_rfl) (fun _ _ _ h => h) (Or.inl ⟨by rfl, ?_⟩) hS ?_ ?_
      rotate_left
      · rintro w' ⟨s0, s1, s2, s3⟩
        go_simp
        try (with_reducible rfl)
      rotate_left
      · simp only [Act.put, List.setIfInBounds_toArray, List.set_cons_zero, List.set_cons_succ]
        rfl
      refine pure_ (i := 11) (N := some 39) (v := ?_) (a' := ?_) #[true, true, true, true, true, true, true, true, true, true, true, true, false, false, false, false, false, false, false, false, false, false, false, false, false, false, false, false, false, false, false, false, false, false, false, false] rfl rfl (by kernel_rfl) (fun _ _ _ h => h) (Or.inl ⟨by rfl, ?_⟩) ?_ ?_
      rotate_left
      · intro w'
        go_simp
        try (with_reducible rfl)
      rotate_left
      · simp only [Act.put, List.setIfInBounds_toArray, List.set_cons_zero, List.set_cons_succ]
        rfl
      refine pure_ (i := 12) (N := some 40) (v := ?_) (a' := ?_) #[true, true, true, true, true, true, true, true, true, true, true, true, true, false, false, false, false, false, false, false, false, false, false, false, false, false, false, false, false, false, false, false, false, false, false, false] rfl rfl (by kernel_rfl) (fun _ _ _ h => h) (Or.inl ⟨by rfl, ?_⟩) ?_ ?_
      rotate_left
      · intro w'
        go_simp
        try (with_reducible rfl)
      rotate_left
      · simp only [Act.put, List.setIfInBounds_toArray, List.set_cons_zero, List.set_cons_succ]
        rfl
      refine pure_ (i := 13) (N := some 41) (v := ?_) (a' := ?_) #[true, true, true, true, true, true, true, true, true, true, true, true, true, true, false, false, false, false, false, false, false, false, false, false, false, false, false, false, false, false, false, false, false, false, false, false] rfl rfl (by kernel_rfl) (fun _ _ _ h => h) (Or.inl ⟨by rfl, ?_⟩) ?_ ?_
      rotate_left
      · intro w'
        go_simp
        try (with_reducible rfl)
      rotate_left
      · simp only [Act.put, List.setIfInBounds_toArray, List.set_cons_zero, List.set_cons_succ]
        rfl
      refine pure_ (i := 14) (N := some 42) (v := ?_) (a' := ?_) #[true, true, true, true, true, true, true, true, true, true, true, true, true, true, true, false, false, false, false, false, false, false, false, false, false, false, false, false, false, false, false, false, false, false, false, false] rfl rfl (by kernel_rfl) (fun _ _ _ h => h) (Or.inl ⟨by rfl, ?_⟩) ?_ ?_
      rotate_left
      · intro w'
        go_simp
        try (with_reducible rfl)
      rotate_left
      · simp only [Act.put, List.setIfInBounds_toArray, List.set_cons_zero, List.set_cons_succ]
        rfl
      refine pure_ (i := 16) (N := some 44) (v := ?_) (a' := ?_) #[true, true, true, true, true, true, true, true, true, true, true, true, true, true, true, false, true, false, false, false, false, false, false, false, false, false, false, false, false, false, false, false, false, false, false, false] rfl rfl (by kernel_rfl) (fun _ _ _ h => h) (Or.inl ⟨by rfl, ?_⟩) ?_ ?_
      rotate_left
      · intro w'
        go_simp
        try (with_reducible rfl)
      rotate_left
      · simp only [Act.put, List.setIfInBounds_toArray, List.set_cons_zero, List.set_cons_succ]
        rfl
      refine pure_ (i := 17) (N := some 45) (v := ?_) (a' := ?_) #[true, true, true, true, true, true, true, true, true, true, true, true, true, true, true, false, true, true, false, false, false, false, false, false, false, false, false, false, false, false, false, false, false, false, false, false] rfl rfl (by kernel_rfl) (fun _ _ _ h => h) (Or.inl ⟨by rfl, ?_⟩) ?_ ?_
      rotate_left
      · intro w'
        go_simp
        try (with_reducible rfl)
      rotate_left
      · simp only [Act.put, List.setIfInBounds_toArray, List.set_cons_zero, List.set_cons_succ]
        rfl
      refine one_ (i := 15) (N := some 43) #[true, true, true, true, true, true, true, true, true, true, true, true, true, true, true, true, true, true, false, false, false, false, false, false, false, false, false, false, false, false, false, false, false, false, false, false] rfl rfl (by kernel_rfl) (by simp) (fun K hK => ?_)
      refine goes_ Tryd.func15 (by kernel_rfl) rfl #[.int .u64 (x : Int)] (by rfl) rfl rfl (by (try simp only [List.map_toArray, List.map_cons, List.map_nil]); first | done | rfl) ?_
      refine (group_Group_Len.calls (x : Int) _ _ hlen).mono ?_
      rintro e w' ⟨rfl, hdx⟩
      refine ⟨_, rfl, ?_⟩
      replace hS := S6.next hdx.below hS
      refine hK.out _ _ hS (fun _ => ?_)
      clear hK K
      refine norm_ (a' := ?_) ?_ ?_
      rotate_left
      · simp only [Act.put, List.setIfInBounds_toArray, List.set_cons_zero, List.set_cons_succ]
        rfl
      refine pure_ (i := 18) (N := some 46) (v := ?_) (a' := ?_) #[true, true, true, true, true, true, true, true, true, true, true, true, true, true, true, true, true, true, true, false, false, false, false, false, false, false, false, false, false, false, false, false, false, false, false, false] rfl rfl (by kernel_rfl) (fun _ _ _ h => h) (Or.inl ⟨by rfl, ?_⟩) ?_ ?_
      rotate_left
      · intro w'
        go_simp
        try (with_reducible rfl)
      rotate_left
      · simp only [Act.put, List.setIfInBounds_toArray, List.set_cons_zero, List.set_cons_succ]
        rfl
      refine pure_ (i := 19) (N := some 47) (v := ?_) (a' := ?_) #[true, true, true, true, true, true, true, true, true, true, true, true, true, true, true, true, true, true, true, true, false, false, false, false, false, false, false, false, false, false, false, false, false, false, false, false] rfl rfl (by kernel_rfl) (fun _ _ _ h => h) (Or.inl ⟨by rfl, ?_⟩) ?_ ?_
      rotate_left
      · intro w'
        go_simp
        try (with_reducible rfl)
      rotate_left
      · simp only [Act.put, List.setIfInBounds_toArray, List.set_cons_zero, List.set_cons_succ]
        rfl
      refine pure_ (i := 20) (N := some 48) (v := ?_) (a' := ?_) #[true, true, true, true, true, true, true, true, true, true, true, true, true, true, true, true, true, true, true, true, true, false, false, false, false, false, false, false, false, false, false, false, false, false, false, false] rfl rfl (by kernel_rfl) (fun _ _ _ h => h) (Or.inl ⟨by rfl, ?_⟩) ?_ ?_
      rotate_left
      · intro w'
        go_simp
        try (with_reducible rfl)
      rotate_left
      · simp only [Act.put, List.setIfInBounds_toArray, List.set_cons_zero, List.set_cons_succ]
        rfl
      refine pure_ (i := 21) (N := some 49) (v := ?_) (a' := ?_) #[true, true, true, true, true, true, true, true, true, true, true, true, true, true, true, true, true, true, true, true, true, true, false, false, false, false, false, false, false, false, false, false, false, false, false, false] rfl rfl (by kernel_rfl) (fun _ _ _ h => h) (Or.inl ⟨by rfl, ?_⟩) ?_ ?_
      rotate_left
      · intro w'
        go_simp
        try (with_reducible rfl)
      rotate_left
      · simp only [Act.put, List.setIfInBounds_toArray, List.set_cons_zero, List.set_cons_succ]
        rfl
      refine pure_ (i := 22) (N := some 50) (v := ?_) (a' := ?_) #[true, true, true, true, true, true, true, true, true, true, true, true, true, true, true, true, true, true, true, true, true, true, true, false, false, false, false, false, false, false, false, false, false, false, false, false] rfl rfl (by kernel_rfl) (fun _ _ _ h => h) (Or.inl ⟨by rfl, ?_⟩) ?_ ?_
      rotate_left
      · intro w'
        go_simp
        try (with_reducible rfl)
      rotate_left
      · simp only [Act.put, List.setIfInBounds_toArray, List.set_cons_zero, List.set_cons_succ]
        rfl
      refine take_ (i := 24) (N := some 52) (a' := ?_) #[true, true, true, true, true, true, true, true, true, true, true, true, true, true, true, true, true, true, true, true, true, true, true, false, true, false, false, false, false, false, false, false, false, false, false, false] rfl rfl (by kernel_rfl) (fun _ _ _ h => h) (yieldsIf_load_mid (by rfl) 30 (.tmp 8) rfl _ _ rfl ((s.set y true).map Value.bool) (.array 64 4) (fun w hw => hw.1) und30 rfl (siz30 _ (by simp [hs]))) hS ?_ ?_
      rotate_left
      · simp only [Act.put, List.setIfInBounds_toArray, List.set_cons_zero, List.set_cons_succ]
        rfl
      refine one_ (i := 23) (N := some 51) #[true, true, true, true, true, true, true, true, true, true, true, true, true, true, true, true, true, true, true, true, true, true, true, true, true, false, false, false, false, false, false, false, false, false, false, false] rfl rfl (by kernel_rfl) (by simp) (fun K hK => ?_)
      refine goes_ Tryd.func23 (by kernel_rfl) rfl #[.int .u64 (x : Int), .int .i64 (y : Int)] (by rfl) rfl rfl (by (try simp only [List.map_toArray, List.map_cons, List.map_nil]); first | done | rfl) ?_
      refine (group_Group_With.calls (x : Int) (y : Int) _ _ hwith).mono ?_
      rintro e w' ⟨rfl, hdx⟩
      refine ⟨_, rfl, ?_⟩
      replace hS := S6.next hdx.below hS
      refine hK.out _ _ hS (fun _ => ?_)
      clear hK K
      refine norm_ (a' := ?_) ?_ ?_
      rotate_left
      · simp only [Act.put, List.setIfInBounds_toArray, List.set_cons_zero, List.set_cons_succ]
        rfl
      refine one_ (i := 25) (N := some 53) #[true, true, true, true, true, true, true, true, true, true, true, true, true, true, true, true, true, true, true, true, true, true, true, true, true, true, false, false, false, false, false, false, false, false, false, false] rfl rfl (by kernel_rfl) (by simp) (fun K hK => ?_)
      refine goes_ Tryd.func10 (by kernel_rfl) rfl #[.agg (bl (s.set y true))] (by rfl) rfl rfl (by (try simp only [List.map_toArray, List.map_cons, List.map_nil]); first | done | rfl) ?_
      refine (word (s.set y true) hsa _).mono ?_
      rintro e w' ⟨rfl, hbx⟩
      refine ⟨_, rfl, ?_⟩
      replace hS := S6.next hbx hS
      refine hK.out _ _ hS (fun _ => ?_)
      clear hK K
      refine norm_ (a' := ?_) ?_ ?_
      rotate_left
      · simp only [Act.put, List.setIfInBounds_toArray, List.set_cons_zero, List.set_cons_succ]
        rfl
      refine pure_ (i := 26) (N := some 54) (v := ?_) (a' := ?_) #[true, true, true, true, true, true, true, true, true, true, true, true, true, true, true, true, true, true, true, true, true, true, true, true, true, true, true, false, false, false, false, false, false, false, false, false] rfl rfl (by kernel_rfl) (fun _ _ _ h => h) (Or.inl ⟨by rfl, ?_⟩) ?_ ?_
      rotate_left
      · intro w'
        go_simp
        try (with_reducible rfl)
      rotate_left
      · simp only [Act.put, List.setIfInBounds_toArray, List.set_cons_zero, List.set_cons_succ]
        rfl
      refine pure_ (i := 27) (N := some 55) (v := ?_) (a' := ?_) #[true, true, true, true, true, true, true, true, true, true, true, true, true, true, true, true, true, true, true, true, true, true, true, true, true, true, true, true, false, false, false, false, false, false, false, false] rfl rfl (by kernel_rfl) (fun _ _ _ h => h) (Or.inl ⟨by rfl, ?_⟩) ?_ ?_
      rotate_left
      · intro w'
        go_simp
        try (with_reducible rfl)
      rotate_left
      · simp only [Act.put, List.setIfInBounds_toArray, List.set_cons_zero, List.set_cons_succ]
        rfl
      refine pure_ (i := 28) (N := some 56) (v := ?_) (a' := ?_) #[true, true, true, true, true, true, true, true, true, true, true, true, true, true, true, true, true, true, true, true, true, true, true, true, true, true, true, true, true, false, false, false, false, false, false, false] rfl rfl (by kernel_rfl) (fun _ _ _ h => h) (Or.inl ⟨by rfl, ?_⟩) ?_ ?_
      rotate_left
      · intro w'
        go_simp
        try (with_reducible rfl)
      rotate_left
      · simp only [Act.put, List.setIfInBounds_toArray, List.set_cons_zero, List.set_cons_succ]
        rfl
      refine pure_ (i := 29) (N := some 57) (v := ?_) (a' := ?_) #[true, true, true, true, true, true, true, true, true, true, true, true, true, true, true, true, true, true, true, true, true, true, true, true, true, true, true, true, true, true, false, false, false, false, false, false] rfl rfl (by kernel_rfl) (fun _ _ _ h => h) (Or.inl ⟨by rfl, ?_⟩) ?_ ?_
      rotate_left
      · intro w'
        go_simp
        try (with_reducible rfl)
      rotate_left
      · simp only [Act.put, List.setIfInBounds_toArray, List.set_cons_zero, List.set_cons_succ]
        rfl
      refine pure_ (i := 30) (N := some 58) (v := ?_) (a' := ?_) #[true, true, true, true, true, true, true, true, true, true, true, true, true, true, true, true, true, true, true, true, true, true, true, true, true, true, true, true, true, true, true, false, false, false, false, false] rfl rfl (by kernel_rfl) (fun _ _ _ h => h) (Or.inl ⟨by rfl, ?_⟩) ?_ ?_
      rotate_left
      · intro w'
        go_simp
        try (with_reducible rfl)
      rotate_left
      · simp only [Act.put, List.setIfInBounds_toArray, List.set_cons_zero, List.set_cons_succ]
        rfl
      refine take_ (i := 32) (N := some 60) (a' := ?_) #[true, true, true, true, true, true, true, true, true, true, true, true, true, true, true, true, true, true, true, true, true, true, true, true, true, true, true, true, true, true, true, false, true, false, false, false] rfl rfl (by kernel_rfl) (fun _ _ _ h => h) (yieldsIf_load_mid (by rfl) 30 (.tmp 9) rfl _ _ rfl ((s.set y false).map Value.bool) (.array 64 4) (fun w hw => hw.2.1) und30 rfl (siz30 _ (by simp [hs]))) hS ?_ ?_
      rotate_left
      · simp only [Act.put, List.setIfInBounds_toArray, List.set_cons_zero, List.set_cons_succ]
        rfl
      refine one_ (i := 31) (N := some 59) #[true, true, true, true, true, true, true, true, true, true, true, true, true, true, true, true, true, true, true, true, true, true, true, true, true, true, true, true, true, true, true, true, true, false, false, false] rfl rfl (by kernel_rfl) (by simp) (fun K hK => ?_)
      refine goes_ Tryd.func24 (by kernel_rfl) rfl #[.int .u64 (x : Int), .int .i64 (y : Int)] (by rfl) rfl rfl (by (try simp only [List.map_toArray, List.map_cons, List.map_nil]); first | done | rfl) ?_
      refine (PGroupTells.group_Group_Without.calls (x : Int) (y : Int) _ _ hwout).mono ?_
      rintro e w' ⟨rfl, hdx⟩
      refine ⟨_, rfl, ?_⟩
      replace hS := S6.next hdx.below hS
      refine hK.out _ _ hS (fun _ => ?_)
      clear hK K
      refine norm_ (a' := ?_) ?_ ?_
      rotate_left
      · simp only [Act.put, List.setIfInBounds_toArray, List.set_cons_zero, List.set_cons_succ]
        rfl
      refine one_ (i := 33) (N := some 61) #[true, true, true, true, true, true, true, true, true, true, true, true, true, true, true, true, true, true, true, true, true, true, true, true, true, true, true, true, true, true, true, true, true, true, false, false] rfl rfl (by kernel_rfl) (by simp) (fun K hK => ?_)
      refine goes_ Tryd.func10 (by kernel_rfl) rfl #[.agg (bl (s.set y false))] (by rfl) rfl rfl (by (try simp only [List.map_toArray, List.map_cons, List.map_nil]); first | done | rfl) ?_
      refine (word (s.set y false) hsb _).mono ?_
      rintro e w' ⟨rfl, hbx⟩
      refine ⟨_, rfl, ?_⟩
      replace hS := S6.next hbx hS
      refine hK.out _ _ hS (fun _ => ?_)
      clear hK K
      refine norm_ (a' := ?_) ?_ ?_
      rotate_left
      · simp only [Act.put, List.setIfInBounds_toArray, List.set_cons_zero, List.set_cons_succ]
        rfl
      refine pure_ (i := 34) (N := some 62) (v := ?_) (a' := ?_) #[true, true, true, true, true, true, true, true, true, true, true, true, true, true, true, true, true, true, true, true, true, true, true, true, true, true, true, true, true, true, true, true, true, true, true, false] rfl rfl (by kernel_rfl) (fun _ _ _ h => h) (Or.inl ⟨by rfl, ?_⟩) ?_ ?_
      rotate_left
      · intro w'
        go_simp
        try (with_reducible rfl)
      rotate_left
      · simp only [Act.put, List.setIfInBounds_toArray, List.set_cons_zero, List.set_cons_succ]
        rfl
      refine pure_ (i := 35) (N := some 63) (v := ?_) (a' := ?_) #[true, true, true, true, true, true, true, true, true, true, true, true, true, true, true, true, true, true, true, true, true, true, true, true, true, true, true, true, true, true, true, true, true, true, true, true] rfl rfl (by kernel_rfl) (fun _ _ _ h => h) (Or.inl ⟨by rfl, ?_⟩) ?_ ?_
      rotate_left
      · intro w'
        go_simp
        try (with_reducible rfl)
      rotate_left
      · simp only [Act.put, List.setIfInBounds_toArray, List.set_cons_zero, List.set_cons_succ]
        rfl
      refine done_ (by kernel_rfl) ?_
      have hB9 := hS.2.2.2.2.2.2.2.1
      clear hS hn1 hn2 hwith hwout hhas hin hlen hsa hsb
      have hE := HE.out
      have hlist := list27 x hx
      simp only [hE] at hlist
      have hsame := same_self (L) (by omega)
      have hleast := fun w' => least x w' hx
      have hnext := fun w' => next x (y : Int) w' hx
      obtain ⟨r, hr⟩ : ∃ r, orMinus (above s (y : Int)) = r := ⟨_, rfl⟩
      have hnw := fun w' => nextw s hs (y : Int) r w' hr
      have hrn : orMinus (nx x (y : Int)) = r := by rw [← above_nx, hse, hr]
      clear hr
      have bw : ∀ {W}, Below W3.heap.size W3 W → Below w.heap.size w W := fun h => hb3.trans (h.mono hb3.size)
      have tw : ∀ {W}, Below W3.heap.size W3 W → Tab W := fun h => hT.below hp (hb3.trans (h.mono hb3.size))
      have hw6 : ∀ {W}, Below W3.heap.size W3 W → W.heap[W1.heap.size]? = some (.cells (bl s) 30 (0, 0)) := fun h => (h.block W1.heap.size (Array.getElem?_eq_some_iff.1 hh3).1).trans hh3
      have BW := Aside0.mk @bw
      have TW := Aside0.mk @tw
      have HW6 := Aside0.mk @hw6
      clear bw tw hw6
      cases hf : first x 0 with
      | none =>
        have hL : L = [] := by rw [← hE]; exact upto_empty x hf
        obtain rfl : [] = L := hL.symm
        simp only [hf, num_none, Option.isSome_none] at hleast
        clear hE hf hL HE hle
        cases hq : nx x (y : Int) with
        | none =>
          simp only [hq, num_none, Option.isSome_none] at hnext
          rw [hq] at hrn
          obtain rfl : -1 = r := hrn
          clear hq
          have HLEAST := Aside0.mk hleast
          have HNEXT := Aside0.mk hnext
          have HLIST := Aside0.mk hlist
          have HNW := Aside0.mk hnw
          have HSAME := Aside0.mk hsame
          clear hleast hnext hlist hnw hsame
          go_wp2_with (first
            | (go_at_call 12; refine (HLEAST.out _ (TW.out hB9)).mono ?_; rintro e W10 ⟨rfl, hd10⟩; have hB10 := hB9.trans (hd10.below.mono hB9.size))
            | (go_at_call 14; refine (HNEXT.out _ (TW.out hB10)).mono ?_; rintro e W11 ⟨rfl, hd11⟩; have hB11 := hB10.trans (hd11.below.mono hB10.size); have hh11 := HW6.out hB11)
            | (refine gate_ (.load 30 (.tmp 6)) rfl ?_; refine wp_load30 rfl _ rfl W1.heap.size s rfl hh11 hs ?_)
            | (go_at_call 25; refine (HNW.out _).mono ?_; rintro e W12 ⟨rfl, hbx⟩; have hB12 := hB11.trans (hbx.mono hB11.size))
            | (go_at_call 27; refine (HLIST.out _ (TW.out hB12)).mono ?_; rintro e W13 ⟨v8, rfl, hown, hby⟩; have hB13 := hB12.trans (hby.mono hB12.size); obtain ⟨A8, c8, rfl, hc8, hC8⟩ := C_of_own hown rfl; have HC8 := Aside0.mk hC8; clear hown hC8)
            | (go_at_call 26; refine (sakiaref05_Same.calls 101 A8 c8 _ _ c7 _ true _ HC8.out hc8 (Kd.C_below hC.out hB13) hc7 HSAME.out).mono ?_; rintro e W14 ⟨rfl, hd14⟩; have hB14 := hB13.trans (hd14.below.mono hB13.size))
            | (go_at_call 7; refine (live _ (TW.out hB14)).mono ?_; rintro e W15 ⟨rfl, hbz⟩; have hB15 := hB14.trans (hbz.mono hB14.size)))
          go_ret
          exact ⟨rfl, BW.out hB15⟩
        | some q =>
          simp only [hq, num_some, Option.isSome_some] at hnext
          rw [hq] at hrn
          obtain rfl : (q : Int) = r := hrn
          have hq0 : (0 : Int) ≤ (q : Int) := by omega
          have hq1 : ¬ ((q : Int) < 0) := by omega
          clear hq
          have HLEAST := Aside0.mk hleast
          have HNEXT := Aside0.mk hnext
          have HLIST := Aside0.mk hlist
          have HNW := Aside0.mk hnw
          have HSAME := Aside0.mk hsame
          clear hleast hnext hlist hnw hsame
          go_wp2_with (first
            | (go_at_call 12; refine (HLEAST.out _ (TW.out hB9)).mono ?_; rintro e W10 ⟨rfl, hd10⟩; have hB10 := hB9.trans (hd10.below.mono hB9.size))
            | (go_at_call 14; refine (HNEXT.out _ (TW.out hB10)).mono ?_; rintro e W11 ⟨rfl, hd11⟩; have hB11 := hB10.trans (hd11.below.mono hB10.size); have hh11 := HW6.out hB11)
            | (refine gate_ (.load 30 (.tmp 6)) rfl ?_; refine wp_load30 rfl _ rfl W1.heap.size s rfl hh11 hs ?_)
            | (go_at_call 25; refine (HNW.out _).mono ?_; rintro e W12 ⟨rfl, hbx⟩; have hB12 := hB11.trans (hbx.mono hB11.size))
            | (go_at_call 27; refine (HLIST.out _ (TW.out hB12)).mono ?_; rintro e W13 ⟨v8, rfl, hown, hby⟩; have hB13 := hB12.trans (hby.mono hB12.size); obtain ⟨A8, c8, rfl, hc8, hC8⟩ := C_of_own hown rfl; have HC8 := Aside0.mk hC8; clear hown hC8)
            | (go_at_call 26; refine (sakiaref05_Same.calls 101 A8 c8 _ _ c7 _ true _ HC8.out hc8 (Kd.C_below hC.out hB13) hc7 HSAME.out).mono ?_; rintro e W14 ⟨rfl, hd14⟩; have hB14 := hB13.trans (hd14.below.mono hB13.size))
            | (go_at_call 7; refine (live _ (TW.out hB14)).mono ?_; rintro e W15 ⟨rfl, hbz⟩; have hB15 := hB14.trans (hbz.mono hB14.size)))
          go_ret
          exact ⟨rfl, BW.out hB15⟩
      | some k =>
        obtain ⟨rest, hL⟩ := upto_head x k hf
        rw [hE] at hL
        have hl1 : 0 < (L).length := by rw [hL]; simp
        have hl0 : decide ((0 : Int) < ((L).length : Int)) = true := decide_eq_true (by omega)
        have hl2 : (0 : Int) < (L.length : Int) := by omega
        have hl3 : ¬ (L = []) := by rw [hL]; simp
        obtain ⟨ad, ea, hxc⟩ := Kd.at_int hC.out 0 (by omega) (by omega)
        cases ea
        have hk0 : rd (L) 0 = (k : Int) := by rw [hL]; rfl
        rw [hk0] at hxc
        have e0 : ad.add (Int.toNat 0) = ad := by unfold Addr.add; cases ad; simp
        rw [e0] at hxc
        have HXC := Aside0.mk hxc
        simp only [hf, num_some, Option.isSome_some] at hleast
        clear hE hf hL hk0 hxc
        cases hq : nx x (y : Int) with
        | none =>
          simp only [hq, num_none, Option.isSome_none] at hnext
          rw [hq] at hrn
          obtain rfl : -1 = r := hrn
          clear hq
          have HLEAST := Aside0.mk hleast
          have HNEXT := Aside0.mk hnext
          have HLIST := Aside0.mk hlist
          have HNW := Aside0.mk hnw
          have HSAME := Aside0.mk hsame
          clear hleast hnext hlist hnw hsame
          go_wp2_with (first
            | (go_at_call 12; refine (HLEAST.out _ (TW.out hB9)).mono ?_; rintro e W10 ⟨rfl, hd10⟩; have hB10 := hB9.trans (hd10.below.mono hB9.size))
            | (go_at_call 14; refine (HNEXT.out _ (TW.out hB10)).mono ?_; rintro e W11 ⟨rfl, hd11⟩; have hB11 := hB10.trans (hd11.below.mono hB10.size); have hh11 := HW6.out hB11)
            | (refine gate_ (.load 30 (.tmp 6)) rfl ?_; refine wp_load30 rfl _ rfl W1.heap.size s rfl hh11 hs ?_)
            | (go_at_call 25; refine (HNW.out _).mono ?_; rintro e W12 ⟨rfl, hbx⟩; have hB12 := hB11.trans (hbx.mono hB11.size); have hxc12 := (hB12.cell (World.block_lt_of_cell? _ _ HXC.out)).trans HXC.out)
            | (go_at_call 27; refine (HLIST.out _ (TW.out hB12)).mono ?_; rintro e W13 ⟨v8, rfl, hown, hby⟩; have hB13 := hB12.trans (hby.mono hB12.size); obtain ⟨A8, c8, rfl, hc8, hC8⟩ := C_of_own hown rfl; have HC8 := Aside0.mk hC8; clear hown hC8)
            | (go_at_call 26; refine (sakiaref05_Same.calls 101 A8 c8 _ _ c7 _ true _ HC8.out hc8 (Kd.C_below hC.out hB13) hc7 HSAME.out).mono ?_; rintro e W14 ⟨rfl, hd14⟩; have hB14 := hB13.trans (hd14.below.mono hB13.size))
            | (go_at_call 7; refine (live _ (TW.out hB14)).mono ?_; rintro e W15 ⟨rfl, hbz⟩; have hB15 := hB14.trans (hbz.mono hB14.size)))
          go_ret
          exact ⟨rfl, BW.out hB15⟩
        | some q =>
          simp only [hq, num_some, Option.isSome_some] at hnext
          rw [hq] at hrn
          obtain rfl : (q : Int) = r := hrn
          have hq0 : (0 : Int) ≤ (q : Int) := by omega
          have hq1 : ¬ ((q : Int) < 0) := by omega
          clear hq
          have HLEAST := Aside0.mk hleast
          have HNEXT := Aside0.mk hnext
          have HLIST := Aside0.mk hlist
          have HNW := Aside0.mk hnw
          have HSAME := Aside0.mk hsame
          clear hleast hnext hlist hnw hsame
          go_wp2_with (first
            | (go_at_call 12; refine (HLEAST.out _ (TW.out hB9)).mono ?_; rintro e W10 ⟨rfl, hd10⟩; have hB10 := hB9.trans (hd10.below.mono hB9.size))
            | (go_at_call 14; refine (HNEXT.out _ (TW.out hB10)).mono ?_; rintro e W11 ⟨rfl, hd11⟩; have hB11 := hB10.trans (hd11.below.mono hB10.size); have hh11 := HW6.out hB11)
            | (refine gate_ (.load 30 (.tmp 6)) rfl ?_; refine wp_load30 rfl _ rfl W1.heap.size s rfl hh11 hs ?_)
            | (go_at_call 25; refine (HNW.out _).mono ?_; rintro e W12 ⟨rfl, hbx⟩; have hB12 := hB11.trans (hbx.mono hB11.size); have hxc12 := (hB12.cell (World.block_lt_of_cell? _ _ HXC.out)).trans HXC.out)
            | (go_at_call 27; refine (HLIST.out _ (TW.out hB12)).mono ?_; rintro e W13 ⟨v8, rfl, hown, hby⟩; have hB13 := hB12.trans (hby.mono hB12.size); obtain ⟨A8, c8, rfl, hc8, hC8⟩ := C_of_own hown rfl; have HC8 := Aside0.mk hC8; clear hown hC8)
            | (go_at_call 26; refine (sakiaref05_Same.calls 101 A8 c8 _ _ c7 _ true _ HC8.out hc8 (Kd.C_below hC.out hB13) hc7 HSAME.out).mono ?_; rintro e W14 ⟨rfl, hd14⟩; have hB14 := hB13.trans (hd14.below.mono hB13.size))
            | (go_at_call 7; refine (live _ (TW.out hB14)).mono ?_; rintro e W15 ⟨rfl, hbz⟩; have hB15 := hB14.trans (hbz.mono hB14.size)))
          go_ret
          exact ⟨rfl, BW.out hB15⟩
    | false =>
      rw [hb] at hin
      have hsa := hs
      have hsb := hs
      have hhas := has_no x i hb
      have hwx : wv s = x := by rw [← hse]; exact wv_bitsOf x hx
      have hwith : group_Group_With.f (x : Int) i = some ((wv s : Nat) : Int) := by rw [hwx]; exact with_no x i hb
      have hwout : PGroupTells.group_Group_Without.f (x : Int) i = some ((wv s : Nat) : Int) := by rw [hwx]; exact without_no x i hb
      clear hb hwx
      go_wp2_with (go_at_call 22; refine (hin _).mono ?_; rintro e w7 ⟨rfl, hd⟩; have hK7 := hK4.next hd.below)
      have hS0 := S6.mk' (j := 0) hh3 hs (by omega) rfl (hK7.next (draw_below w7))
      clear hK4 hd
      refine start_ (n := 36) (S := S6 W3 W1.heap.size g8 g9 s s s 0 (s.getD 0 false)) (ds := []) #[false, false, false, false, false, false, false, false, false, false, false, false, false, false, false, false, false, false, false, false, false, false, false, false, false, false, false, false, false, false, false, false, false, false, false, false] (by kernel_rfl) rfl rfl hS0 (fun hS => ?_)
      refine pure_ (i := 0) (N := some 28) (v := ?_) (a' := ?_) #[true, false, false, false, false, false, false, false, false, false, false, false, false, false, false, false, false, false, false, false, false, false, false, false, false, false, false, false, false, false, false, false, false, false, false, false] rfl rfl (by kernel_rfl) (fun _ _ _ h => h) (Or.inl ⟨by rfl, ?_⟩) ?_ ?_
      rotate_left
      · intro w'
        go_simp
        try (with_reducible rfl)
      rotate_left
      · simp only [Act.put, List.setIfInBounds_toArray, List.set_cons_zero, List.set_cons_succ]
        rfl
      refine pure_ (i := 1) (N := some 29) (v := ?_) (a' := ?_) #[true, true, false, false, false, false, false, false, false, false, false, false, false, false, false, false, false, false, false, false, false, false, false, false, false, false, false, false, false, false, false, false, false, false, false, false] rfl rfl (by kernel_rfl) (fun _ _ _ h => h) (Or.inl ⟨by rfl, ?_⟩) ?_ ?_
      rotate_left
      · intro w'
        go_simp
        try (with_reducible rfl)
      rotate_left
      · simp only [Act.put, List.setIfInBounds_toArray, List.set_cons_zero, List.set_cons_succ]
        rfl
      refine pure_ (i := 3) (N := some 31) (v := ?_) (a' := ?_) #[true, true, false, true, false, false, false, false, false, false, false, false, false, false, false, false, false, false, false, false, false, false, false, false, false, false, false, false, false, false, false, false, false, false, false, false] rfl rfl (by kernel_rfl) (fun _ _ _ h => h) (Or.inl ⟨by rfl, ?_⟩) ?_ ?_
      rotate_left
      · intro w'
        go_simp
        try (with_reducible rfl)
      rotate_left
      · simp only [Act.put, List.setIfInBounds_toArray, List.set_cons_zero, List.set_cons_succ]
        rfl
      refine one_ (i := 2) (N := some 30) #[true, true, true, true, false, false, false, false, false, false, false, false, false, false, false, false, false, false, false, false, false, false, false, false, false, false, false, false, false, false, false, false, false, false, false, false] rfl rfl (by kernel_rfl) (by simp) (fun K hK => ?_)
      refine goes_ Tryd.func13 (by kernel_rfl) rfl #[.int .u64 (x : Int), .int .i64 i] (by rfl) rfl rfl (by (try simp only [List.map_toArray, List.map_cons, List.map_nil]); first | done | rfl) ?_
      refine (PGroupTells.group_Group_Has.calls (x : Int) i _ _ hhas).mono ?_
      rintro e w' ⟨rfl, hdx⟩
      refine ⟨_, rfl, ?_⟩
      replace hS := S6.next hdx.below hS
      refine hK.out _ _ hS (fun _ => ?_)
      clear hK K
      refine norm_ (a' := ?_) ?_ ?_
      rotate_left
      · simp only [Act.put, List.setIfInBounds_toArray, List.set_cons_zero, List.set_cons_succ]
        rfl
      refine one_ (i := 4) (N := some 32) #[true, true, true, true, true, false, false, false, false, false, false, false, false, false, false, false, false, false, false, false, false, false, false, false, false, false, false, false, false, false, false, false, false, false, false, false] rfl rfl (by kernel_rfl) (by simp) (fun K hK => ?_)
      refine goes_ Tryd.func22 (by kernel_rfl) rfl #[.int .i64 i] (by rfl) rfl rfl (by (try simp only [List.map_toArray, List.map_cons, List.map_nil]); first | done | rfl) ?_
      refine (hin _).mono ?_
      rintro e w' ⟨rfl, hdx⟩
      refine ⟨_, rfl, ?_⟩
      replace hS := S6.next hdx.below hS
      refine hK.out _ _ hS (fun _ => ?_)
      clear hK K
      refine norm_ (a' := ?_) ?_ ?_
      rotate_left
      · simp only [Act.put, List.setIfInBounds_toArray, List.set_cons_zero, List.set_cons_succ]
        rfl
      refine pure_ (i := 5) (N := some 33) (v := ?_) (a' := ?_) #[true, true, true, true, true, true, false, false, false, false, false, false, false, false, false, false, false, false, false, false, false, false, false, false, false, false, false, false, false, false, false, false, false, false, false, false] rfl rfl (by kernel_rfl) (fun _ _ _ h => h) (Or.inl ⟨by rfl, ?_⟩) ?_ ?_
      rotate_left
      · intro w'
        go_simp
        try (with_reducible rfl)
      rotate_left
      · simp only [Act.put, List.setIfInBounds_toArray, List.set_cons_zero, List.set_cons_succ]
        rfl
      refine pure_ (i := 6) (N := some 34) (v := undef) (a' := ?_) #[true, true, true, true, true, true, true, false, false, false, false, false, false, false, false, false, false, false, false, false, false, false, false, false, false, false, false, false, false, false, false, false, false, false, false, false] rfl rfl (by kernel_rfl) (fun _ _ _ h => h) (Or.inr ⟨by rfl, rfl⟩) ?_ ?_
      rotate_left
      · simp only [Act.put, List.setIfInBounds_toArray, List.set_cons_zero, List.set_cons_succ]
        rfl
      refine pure_ (i := 7) (N := some 35) (v := undef) (a' := ?_) #[true, true, true, true, true, true, true, true, false, false, false, false, false, false, false, false, false, false, false, false, false, false, false, false, false, false, false, false, false, false, false, false, false, false, false, false] rfl rfl (by kernel_rfl) (fun _ _ _ h => h) (Or.inr ⟨by rfl, rfl⟩) ?_ ?_
      rotate_left
      · simp only [Act.put, List.setIfInBounds_toArray, List.set_cons_zero, List.set_cons_succ]
        rfl
      refine pure_ (i := 8) (N := some 36) (v := undef) (a' := ?_) #[true, true, true, true, true, true, true, true, true, false, false, false, false, false, false, false, false, false, false, false, false, false, false, false, false, false, false, false, false, false, false, false, false, false, false, false] rfl rfl (by kernel_rfl) (fun _ _ _ h => h) (Or.inr ⟨by rfl, rfl⟩) ?_ ?_
      rotate_left
      · simp only [Act.put, List.setIfInBounds_toArray, List.set_cons_zero, List.set_cons_succ]
        rfl
      refine pure_ (i := 9) (N := some 37) (v := undef) (a' := ?_) #[true, true, true, true, true, true, true, true, true, true, false, false, false, false, false, false, false, false, false, false, false, false, false, false, false, false, false, false, false, false, false, false, false, false, false, false] rfl rfl (by kernel_rfl) (fun _ _ _ h => h) (Or.inr ⟨by rfl, rfl⟩) ?_ ?_
      rotate_left
      · simp only [Act.put, List.setIfInBounds_toArray, List.set_cons_zero, List.set_cons_succ]
        rfl
      refine pure_ (i := 10) (N := some 38) (v := undef) (a' := ?_) #[true, true, true, true, true, true, true, true, true, true, true, false, false, false, false, false, false, false, false, false, false, false, false, false, false, false, false, false, false, false, false, false, false, false, false, false] rfl rfl (by kernel_rfl) (fun _ _ _ h => h) (Or.inr ⟨by rfl, rfl⟩) ?_ ?_
      rotate_left
      · simp only [Act.put, List.setIfInBounds_toArray, List.set_cons_zero, List.set_cons_succ]
        rfl
      refine pure_ (i := 11) (N := some 39) (v := ?_) (a' := ?_) #[true, true, true, true, true, true, true, true, true, true, true, true, false, false, false, false, false, false, false, false, false, false, false, false, false, false, false, false, false, false, false, false, false, false, false, false] rfl rfl (by kernel_rfl) (fun _ _ _ h => h) (Or.inl ⟨by rfl, ?_⟩) ?_ ?_
      rotate_left
      · intro w'
        go_simp
        try (with_reducible rfl)
      rotate_left
      · simp only [Act.put, List.setIfInBounds_toArray, List.set_cons_zero, List.set_cons_succ]
        rfl
      refine pure_ (i := 12) (N := some 40) (v := ?_) (a' := ?_) #[true, true, true, true, true, true, true, true, true, true, true, true, true, false, false, false, false, false, false, false, false, false, false, false, false, false, false, false, false, false, false, false, false, false, false, false] rfl rfl (by kernel_rfl) (fun _ _ _ h => h) (Or.inl ⟨by rfl, ?_⟩) ?_ ?_
      rotate_left
      · intro w'
        go_simp
        try (with_reducible rfl)
      rotate_left
      · simp only [Act.put, List.setIfInBounds_toArray, List.set_cons_zero, List.set_cons_succ]
        rfl
      refine pure_ (i := 13) (N := some 41) (v := ?_) (a' := ?_) #[true, true, true, true, true, true, true, true, true, true, true, true, true, true, false, false, false, false, false, false, false, false, false, false, false, false, false, false, false, false, false, false, false, false, false, false] rfl rfl (by kernel_rfl) (fun _ _ _ h => h) (Or.inl ⟨by rfl, ?_⟩) ?_ ?_
      rotate_left
      · intro w'
        go_simp
        try (with_reducible rfl)
      rotate_left
      · simp only [Act.put, List.setIfInBounds_toArray, List.set_cons_zero, List.set_cons_succ]
        rfl
      refine pure_ (i := 14) (N := some 42) (v := ?_) (a' := ?_) #[true, true, true, true, true, true, true, true, true, true, true, true, true, true, true, false, false, false, false, false, false, false, false, false, false, false, false, false, false, false, false, false, false, false, false, false] rfl rfl (by kernel_rfl) (fun _ _ _ h => h) (Or.inl ⟨by rfl, ?_⟩) ?_ ?_
      rotate_left
      · intro w'
        go_simp
        try (with_reducible rfl)
      rotate_left
      · simp only [Act.put, List.setIfInBounds_toArray, List.set_cons_zero, List.set_cons_succ]
        rfl
      refine pure_ (i := 16) (N := some 44) (v := ?_) (a' := ?_) #[true, true, true, true, true, true, true, true, true, true, true, true, true, true, true, false, true, false, false, false, false, false, false, false, false, false, false, false, false, false, false, false, false, false, false, false] rfl rfl (by kernel_rfl) (fun _ _ _ h => h) (Or.inl ⟨by rfl, ?_⟩) ?_ ?_
      rotate_left
      · intro w'
        go_simp
        try (with_reducible rfl)
      rotate_left
      · simp only [Act.put, List.setIfInBounds_toArray, List.set_cons_zero, List.set_cons_succ]
        rfl
      refine pure_ (i := 17) (N := some 45) (v := ?_) (a' := ?_) #[true, true, true, true, true, true, true, true, true, true, true, true, true, true, true, false, true, true, false, false, false, false, false, false, false, false, false, false, false, false, false, false, false, false, false, false] rfl rfl (by kernel_rfl) (fun _ _ _ h => h) (Or.inl ⟨by rfl, ?_⟩) ?_ ?_
      rotate_left
      · intro w'
        go_simp
        try (with_reducible rfl)
      rotate_left
      · simp only [Act.put, List.setIfInBounds_toArray, List.set_cons_zero, List.set_cons_succ]
        rfl
      refine one_ (i := 15) (N := some 43) #[true, true, true, true, true, true, true, true, true, true, true, true, true, true, true, true, true, true, false, false, false, false, false, false, false, false, false, false, false, false, false, false, false, false, false, false] rfl rfl (by kernel_rfl) (by simp) (fun K hK => ?_)
      refine goes_ Tryd.func15 (by kernel_rfl) rfl #[.int .u64 (x : Int)] (by rfl) rfl rfl (by (try simp only [List.map_toArray, List.map_cons, List.map_nil]); first | done | rfl) ?_
      refine (group_Group_Len.calls (x : Int) _ _ hlen).mono ?_
      rintro e w' ⟨rfl, hdx⟩
      refine ⟨_, rfl, ?_⟩
      replace hS := S6.next hdx.below hS
      refine hK.out _ _ hS (fun _ => ?_)
      clear hK K
      refine norm_ (a' := ?_) ?_ ?_
      rotate_left
      · simp only [Act.put, List.setIfInBounds_toArray, List.set_cons_zero, List.set_cons_succ]
        rfl
      refine pure_ (i := 18) (N := some 46) (v := ?_) (a' := ?_) #[true, true, true, true, true, true, true, true, true, true, true, true, true, true, true, true, true, true, true, false, false, false, false, false, false, false, false, false, false, false, false, false, false, false, false, false] rfl rfl (by kernel_rfl) (fun _ _ _ h => h) (Or.inl ⟨by rfl, ?_⟩) ?_ ?_
      rotate_left
      · intro w'
        go_simp
        try (with_reducible rfl)
      rotate_left
      · simp only [Act.put, List.setIfInBounds_toArray, List.set_cons_zero, List.set_cons_succ]
        rfl
      refine pure_ (i := 19) (N := some 47) (v := ?_) (a' := ?_) #[true, true, true, true, true, true, true, true, true, true, true, true, true, true, true, true, true, true, true, true, false, false, false, false, false, false, false, false, false, false, false, false, false, false, false, false] rfl rfl (by kernel_rfl) (fun _ _ _ h => h) (Or.inl ⟨by rfl, ?_⟩) ?_ ?_
      rotate_left
      · intro w'
        go_simp
        try (with_reducible rfl)
      rotate_left
      · simp only [Act.put, List.setIfInBounds_toArray, List.set_cons_zero, List.set_cons_succ]
        rfl
      refine pure_ (i := 20) (N := some 48) (v := ?_) (a' := ?_) #[true, true, true, true, true, true, true, true, true, true, true, true, true, true, true, true, true, true, true, true, true, false, false, false, false, false, false, false, false, false, false, false, false, false, false, false] rfl rfl (by kernel_rfl) (fun _ _ _ h => h) (Or.inl ⟨by rfl, ?_⟩) ?_ ?_
      rotate_left
      · intro w'
        go_simp
        try (with_reducible rfl)
      rotate_left
      · simp only [Act.put, List.setIfInBounds_toArray, List.set_cons_zero, List.set_cons_succ]
        rfl
      refine pure_ (i := 21) (N := some 49) (v := ?_) (a' := ?_) #[true, true, true, true, true, true, true, true, true, true, true, true, true, true, true, true, true, true, true, true, true, true, false, false, false, false, false, false, false, false, false, false, false, false, false, false] rfl rfl (by kernel_rfl) (fun _ _ _ h => h) (Or.inl ⟨by rfl, ?_⟩) ?_ ?_
      rotate_left
      · intro w'
        go_simp
        try (with_reducible rfl)
      rotate_left
      · simp only [Act.put, List.setIfInBounds_toArray, List.set_cons_zero, List.set_cons_succ]
        rfl
      refine pure_ (i := 22) (N := some 50) (v := ?_) (a' := ?_) #[true, true, true, true, true, true, true, true, true, true, true, true, true, true, true, true, true, true, true, true, true, true, true, false, false, false, false, false, false, false, false, false, false, false, false, false] rfl rfl (by kernel_rfl) (fun _ _ _ h => h) (Or.inl ⟨by rfl, ?_⟩) ?_ ?_
      rotate_left
      · intro w'
        go_simp
        try (with_reducible rfl)
      rotate_left
      · simp only [Act.put, List.setIfInBounds_toArray, List.set_cons_zero, List.set_cons_succ]
        rfl
      refine take_ (i := 24) (N := some 52) (a' := ?_) #[true, true, true, true, true, true, true, true, true, true, true, true, true, true, true, true, true, true, true, true, true, true, true, false, true, false, false, false, false, false, false, false, false, false, false, false] rfl rfl (by kernel_rfl) (fun _ _ _ h => h) (yieldsIf_load_mid (by rfl) 30 (.tmp 8) rfl _ _ rfl (s.map Value.bool) (.array 64 4) (fun w hw => hw.1) und30 rfl (siz30 _ hs)) hS ?_ ?_
      rotate_left
      · simp only [Act.put, List.setIfInBounds_toArray, List.set_cons_zero, List.set_cons_succ]
        rfl
      refine one_ (i := 23) (N := some 51) #[true, true, true, true, true, true, true, true, true, true, true, true, true, true, true, true, true, true, true, true, true, true, true, true, true, false, false, false, false, false, false, false, false, false, false, false] rfl rfl (by kernel_rfl) (by simp) (fun K hK => ?_)
      refine goes_ Tryd.func23 (by kernel_rfl) rfl #[.int .u64 (x : Int), .int .i64 i] (by rfl) rfl rfl (by (try simp only [List.map_toArray, List.map_cons, List.map_nil]); first | done | rfl) ?_
      refine (group_Group_With.calls (x : Int) i _ _ hwith).mono ?_
      rintro e w' ⟨rfl, hdx⟩
      refine ⟨_, rfl, ?_⟩
      replace hS := S6.next hdx.below hS
      refine hK.out _ _ hS (fun _ => ?_)
      clear hK K
      refine norm_ (a' := ?_) ?_ ?_
      rotate_left
      · simp only [Act.put, List.setIfInBounds_toArray, List.set_cons_zero, List.set_cons_succ]
        rfl
      refine one_ (i := 25) (N := some 53) #[true, true, true, true, true, true, true, true, true, true, true, true, true, true, true, true, true, true, true, true, true, true, true, true, true, true, false, false, false, false, false, false, false, false, false, false] rfl rfl (by kernel_rfl) (by simp) (fun K hK => ?_)
      refine goes_ Tryd.func10 (by kernel_rfl) rfl #[.agg (bl s)] (by rfl) rfl rfl (by (try simp only [List.map_toArray, List.map_cons, List.map_nil]); first | done | rfl) ?_
      refine (word s hsa _).mono ?_
      rintro e w' ⟨rfl, hbx⟩
      refine ⟨_, rfl, ?_⟩
      replace hS := S6.next hbx hS
      refine hK.out _ _ hS (fun _ => ?_)
      clear hK K
      refine norm_ (a' := ?_) ?_ ?_
      rotate_left
      · simp only [Act.put, List.setIfInBounds_toArray, List.set_cons_zero, List.set_cons_succ]
        rfl
      refine pure_ (i := 26) (N := some 54) (v := ?_) (a' := ?_) #[true, true, true, true, true, true, true, true, true, true, true, true, true, true, true, true, true, true, true, true, true, true, true, true, true, true, true, false, false, false, false, false, false, false, false, false] rfl rfl (by kernel_rfl) (fun _ _ _ h => h) (Or.inl ⟨by rfl, ?_⟩) ?_ ?_
      rotate_left
      · intro w'
        go_simp
        try (with_reducible rfl)
      rotate_left
      · simp only [Act.put, List.setIfInBounds_toArray, List.set_cons_zero, List.set_cons_succ]
        rfl
      refine pure_ (i := 27) (N := some 55) (v := ?_) (a' := ?_) #[true, true, true, true, true, true, true, true, true, true, true, true, true, true, true, true, true, true, true, true, true, true, true, true, true, true, true, true, false, false, false, false, false, false, false, false] rfl rfl (by kernel_rfl) (fun _ _ _ h => h) (Or.inl ⟨by rfl, ?_⟩) ?_ ?_
      rotate_left
      · intro w'
        go_simp
        try (with_reducible rfl)
      rotate_left
      · simp only [Act.put, List.setIfInBounds_toArray, List.set_cons_zero, List.set_cons_succ]
        rfl
      refine pure_ (i := 28) (N := some 56) (v := ?_) (a' := ?_) #[true, true, true, true, true, true, true, true, true, true, true, true, true, true, true, true, true, true, true, true, true, true, true, true, true, true, true, true, true, false, false, false, false, false, false, false] rfl rfl (by kernel_rfl) (fun _ _ _ h => h) (Or.inl ⟨by rfl, ?_⟩) ?_ ?_
      rotate_left
      · intro w'
        go_simp
        try (with_reducible rfl)
      rotate_left
      · simp only [Act.put, List.setIfInBounds_toArray, List.set_cons_zero, List.set_cons_succ]
        rfl
      refine pure_ (i := 29) (N := some 57) (v := ?_) (a' := ?_) #[true, true, true, true, true, true, true, true, true, true, true, true, true, true, true, true, true, true, true, true, true, true, true, true, true, true, true, true, true, true, false, false, false, false, false, false] rfl rfl (by kernel_rfl) (fun _ _ _ h => h) (Or.inl ⟨by rfl, ?_⟩) ?_ ?_
      rotate_left
      · intro w'
        go_simp
        try (with_reducible rfl)
      rotate_left
      · simp only [Act.put, List.setIfInBounds_toArray, List.set_cons_zero, List.set_cons_succ]
        rfl
      refine pure_ (i := 30) (N := some 58) (v := ?_) (a' := ?_) #[true, true, true, true, true, true, true, true, true, true, true, true, true, true, true, true, true, true, true, true, true, true, true, true, true, true, true, true, true, true, true, false, false, false, false, false] rfl rfl (by kernel_rfl) (fun _ _ _ h => h) (Or.inl ⟨by rfl, ?_⟩) ?_ ?_
      rotate_left
      · intro w'
        go_simp
        try (with_reducible rfl)
      rotate_left
      · simp only [Act.put, List.setIfInBounds_toArray, List.set_cons_zero, List.set_cons_succ]
        rfl
      refine take_ (i := 32) (N := some 60) (a' := ?_) #[true, true, true, true, true, true, true, true, true, true, true, true, true, true, true, true, true, true, true, true, true, true, true, true, true, true, true, true, true, true, true, false, true, false, false, false] rfl rfl (by kernel_rfl) (fun _ _ _ h => h) (yieldsIf_load_mid (by rfl) 30 (.tmp 9) rfl _ _ rfl (s.map Value.bool) (.array 64 4) (fun w hw => hw.2.1) und30 rfl (siz30 _ hs)) hS ?_ ?_
      rotate_left
      · simp only [Act.put, List.setIfInBounds_toArray, List.set_cons_zero, List.set_cons_succ]
        rfl
      refine one_ (i := 31) (N := some 59) #[true, true, true, true, true, true, true, true, true, true, true, true, true, true, true, true, true, true, true, true, true, true, true, true, true, true, true, true, true, true, true, true, true, false, false, false] rfl rfl (by kernel_rfl) (by simp) (fun K hK => ?_)
      refine goes_ Tryd.func24 (by kernel_rfl) rfl #[.int .u64 (x : Int), .int .i64 i] (by rfl) rfl rfl (by (try simp only [List.map_toArray, List.map_cons, List.map_nil]); first | done | rfl) ?_
      refine (PGroupTells.group_Group_Without.calls (x : Int) i _ _ hwout).mono ?_
      rintro e w' ⟨rfl, hdx⟩
      refine ⟨_, rfl, ?_⟩
      replace hS := S6.next hdx.below hS
      refine hK.out _ _ hS (fun _ => ?_)
      clear hK K
      refine norm_ (a' := ?_) ?_ ?_
      rotate_left
      · simp only [Act.put, List.setIfInBounds_toArray, List.set_cons_zero, List.set_cons_succ]
        rfl
      refine one_ (i := 33) (N := some 61) #[true, true, true, true, true, true, true, true, true, true, true, true, true, true, true, true, true, true, true, true, true, true, true, true, true, true, true, true, true, true, true, true, true, true, false, false] rfl rfl (by kernel_rfl) (by simp) (fun K hK => ?_)
      refine goes_ Tryd.func10 (by kernel_rfl) rfl #[.agg (bl s)] (by rfl) rfl rfl (by (try simp only [List.map_toArray, List.map_cons, List.map_nil]); first | done | rfl) ?_
      refine (word s hsb _).mono ?_
      rintro e w' ⟨rfl, hbx⟩
      refine ⟨_, rfl, ?_⟩
      replace hS := S6.next hbx hS
      refine hK.out _ _ hS (fun _ => ?_)
      clear hK K
      refine norm_ (a' := ?_) ?_ ?_
      rotate_left
      · simp only [Act.put, List.setIfInBounds_toArray, List.set_cons_zero, List.set_cons_succ]
        rfl
      refine pure_ (i := 34) (N := some 62) (v := ?_) (a' := ?_) #[true, true, true, true, true, true, true, true, true, true, true, true, true, true, true, true, true, true, true, true, true, true, true, true, true, true, true, true, true, true, true, true, true, true, true, false] rfl rfl (by kernel_rfl) (fun _ _ _ h => h) (Or.inl ⟨by rfl, ?_⟩) ?_ ?_
      rotate_left
      · intro w'
        go_simp
        try (with_reducible rfl)
      rotate_left
      · simp only [Act.put, List.setIfInBounds_toArray, List.set_cons_zero, List.set_cons_succ]
        rfl
      refine pure_ (i := 35) (N := some 63) (v := ?_) (a' := ?_) #[true, true, true, true, true, true, true, true, true, true, true, true, true, true, true, true, true, true, true, true, true, true, true, true, true, true, true, true, true, true, true, true, true, true, true, true] rfl rfl (by kernel_rfl) (fun _ _ _ h => h) (Or.inl ⟨by rfl, ?_⟩) ?_ ?_
      rotate_left
      · intro w'
        go_simp
        try (with_reducible rfl)
      rotate_left
      · simp only [Act.put, List.setIfInBounds_toArray, List.set_cons_zero, List.set_cons_succ]
        rfl
      refine done_ (by kernel_rfl) ?_
      have hB9 := hS.2.2.2.2.2.2.2.1
      clear hS hwith hwout hhas hin hlen hsa hsb
      have hE := HE.out
      have hlist := list27 x hx
      simp only [hE] at hlist
      have hsame := same_self (L) (by omega)
      have hleast := fun w' => least x w' hx
      have hnext := fun w' => next x i w' hx
      obtain ⟨r, hr⟩ : ∃ r, orMinus (above s i) = r := ⟨_, rfl⟩
      have hnw := fun w' => nextw s hs i r w' hr
      have hrn : orMinus (nx x i) = r := by rw [← above_nx, hse, hr]
      clear hr
      have bw : ∀ {W}, Below W3.heap.size W3 W → Below w.heap.size w W := fun h => hb3.trans (h.mono hb3.size)
      have tw : ∀ {W}, Below W3.heap.size W3 W → Tab W := fun h => hT.below hp (hb3.trans (h.mono hb3.size))
      have hw6 : ∀ {W}, Below W3.heap.size W3 W → W.heap[W1.heap.size]? = some (.cells (bl s) 30 (0, 0)) := fun h => (h.block W1.heap.size (Array.getElem?_eq_some_iff.1 hh3).1).trans hh3
      have BW := Aside0.mk @bw
      have TW := Aside0.mk @tw
      have HW6 := Aside0.mk @hw6
      clear bw tw hw6
      cases hf : first x 0 with
      | none =>
        have hL : L = [] := by rw [← hE]; exact upto_empty x hf
        obtain rfl : [] = L := hL.symm
        simp only [hf, num_none, Option.isSome_none] at hleast
        clear hE hf hL HE hle
        cases hq : nx x i with
        | none =>
          simp only [hq, num_none, Option.isSome_none] at hnext
          rw [hq] at hrn
          obtain rfl : -1 = r := hrn
          clear hq
          have HLEAST := Aside0.mk hleast
          have HNEXT := Aside0.mk hnext
          have HLIST := Aside0.mk hlist
          have HNW := Aside0.mk hnw
          have HSAME := Aside0.mk hsame
          clear hleast hnext hlist hnw hsame
          go_wp2_with (first
            | (go_at_call 12; refine (HLEAST.out _ (TW.out hB9)).mono ?_; rintro e W10 ⟨rfl, hd10⟩; have hB10 := hB9.trans (hd10.below.mono hB9.size))
            | (go_at_call 14; refine (HNEXT.out _ (TW.out hB10)).mono ?_; rintro e W11 ⟨rfl, hd11⟩; have hB11 := hB10.trans (hd11.below.mono hB10.size); have hh11 := HW6.out hB11)
            | (refine gate_ (.load 30 (.tmp 6)) rfl ?_; refine wp_load30 rfl _ rfl W1.heap.size s rfl hh11 hs ?_)
            | (go_at_call 25; refine (HNW.out _).mono ?_; rintro e W12 ⟨rfl, hbx⟩; have hB12 := hB11.trans (hbx.mono hB11.size))
            | (go_at_call 27; refine (HLIST.out _ (TW.out hB12)).mono ?_; rintro e W13 ⟨v8, rfl, hown, hby⟩; have hB13 := hB12.trans (hby.mono hB12.size); obtain ⟨A8, c8, rfl, hc8, hC8⟩ := C_of_own hown rfl; have HC8 := Aside0.mk hC8; clear hown hC8)
            | (go_at_call 26; refine (sakiaref05_Same.calls 101 A8 c8 _ _ c7 _ true _ HC8.out hc8 (Kd.C_below hC.out hB13) hc7 HSAME.out).mono ?_; rintro e W14 ⟨rfl, hd14⟩; have hB14 := hB13.trans (hd14.below.mono hB13.size))
            | (go_at_call 7; refine (live _ (TW.out hB14)).mono ?_; rintro e W15 ⟨rfl, hbz⟩; have hB15 := hB14.trans (hbz.mono hB14.size)))
          go_ret
          exact ⟨rfl, BW.out hB15⟩
        | some q =>
          simp only [hq, num_some, Option.isSome_some] at hnext
          rw [hq] at hrn
          obtain rfl : (q : Int) = r := hrn
          have hq0 : (0 : Int) ≤ (q : Int) := by omega
          have hq1 : ¬ ((q : Int) < 0) := by omega
          clear hq
          have HLEAST := Aside0.mk hleast
          have HNEXT := Aside0.mk hnext
          have HLIST := Aside0.mk hlist
          have HNW := Aside0.mk hnw
          have HSAME := Aside0.mk hsame
          clear hleast hnext hlist hnw hsame
          go_wp2_with (first
            | (go_at_call 12; refine (HLEAST.out _ (TW.out hB9)).mono ?_; rintro e W10 ⟨rfl, hd10⟩; have hB10 := hB9.trans (hd10.below.mono hB9.size))
            | (go_at_call 14; refine (HNEXT.out _ (TW.out hB10)).mono ?_; rintro e W11 ⟨rfl, hd11⟩; have hB11 := hB10.trans (hd11.below.mono hB10.size); have hh11 := HW6.out hB11)
            | (refine gate_ (.load 30 (.tmp 6)) rfl ?_; refine wp_load30 rfl _ rfl W1.heap.size s rfl hh11 hs ?_)
            | (go_at_call 25; refine (HNW.out _).mono ?_; rintro e W12 ⟨rfl, hbx⟩; have hB12 := hB11.trans (hbx.mono hB11.size))
            | (go_at_call 27; refine (HLIST.out _ (TW.out hB12)).mono ?_; rintro e W13 ⟨v8, rfl, hown, hby⟩; have hB13 := hB12.trans (hby.mono hB12.size); obtain ⟨A8, c8, rfl, hc8, hC8⟩ := C_of_own hown rfl; have HC8 := Aside0.mk hC8; clear hown hC8)
            | (go_at_call 26; refine (sakiaref05_Same.calls 101 A8 c8 _ _ c7 _ true _ HC8.out hc8 (Kd.C_below hC.out hB13) hc7 HSAME.out).mono ?_; rintro e W14 ⟨rfl, hd14⟩; have hB14 := hB13.trans (hd14.below.mono hB13.size))
            | (go_at_call 7; refine (live _ (TW.out hB14)).mono ?_; rintro e W15 ⟨rfl, hbz⟩; have hB15 := hB14.trans (hbz.mono hB14.size)))
          go_ret
          exact ⟨rfl, BW.out hB15⟩
      | some k =>
        obtain ⟨rest, hL⟩ := upto_head x k hf
        rw [hE] at hL
        have hl1 : 0 < (L).length := by rw [hL]; simp
        have hl0 : decide ((0 : Int) < ((L).length : Int)) = true := decide_eq_true (by omega)
        have hl2 : (0 : Int) < (L.length : Int) := by omega
        have hl3 : ¬ (L = []) := by rw [hL]; simp
        obtain ⟨ad, ea, hxc⟩ := Kd.at_int hC.out 0 (by omega) (by omega)
        cases ea
        have hk0 : rd (L) 0 = (k : Int) := by rw [hL]; rfl
        rw [hk0] at hxc
        have e0 : ad.add (Int.toNat 0) = ad := by unfold Addr.add; cases ad; simp
        rw [e0] at hxc
        have HXC := Aside0.mk hxc
        simp only [hf, num_some, Option.isSome_some] at hleast
        clear hE hf hL hk0 hxc
        cases hq : nx x i with
        | none =>
          simp only [hq, num_none, Option.isSome_none] at hnext
          rw [hq] at hrn
          obtain rfl : -1 = r := hrn
          clear hq
          have HLEAST := Aside0.mk hleast
          have HNEXT := Aside0.mk hnext
          have HLIST := Aside0.mk hlist
          have HNW := Aside0.mk hnw
          have HSAME := Aside0.mk hsame
          clear hleast hnext hlist hnw hsame
          go_wp2_with (first
            | (go_at_call 12; refine (HLEAST.out _ (TW.out hB9)).mono ?_; rintro e W10 ⟨rfl, hd10⟩; have hB10 := hB9.trans (hd10.below.mono hB9.size))
            | (go_at_call 14; refine (HNEXT.out _ (TW.out hB10)).mono ?_; rintro e W11 ⟨rfl, hd11⟩; have hB11 := hB10.trans (hd11.below.mono hB10.size); have hh11 := HW6.out hB11)
            | (refine gate_ (.load 30 (.tmp 6)) rfl ?_; refine wp_load30 rfl _ rfl W1.heap.size s rfl hh11 hs ?_)
            | (go_at_call 25; refine (HNW.out _).mono ?_; rintro e W12 ⟨rfl, hbx⟩; have hB12 := hB11.trans (hbx.mono hB11.size); have hxc12 := (hB12.cell (World.block_lt_of_cell? _ _ HXC.out)).trans HXC.out)
            | (go_at_call 27; refine (HLIST.out _ (TW.out hB12)).mono ?_; rintro e W13 ⟨v8, rfl, hown, hby⟩; have hB13 := hB12.trans (hby.mono hB12.size); obtain ⟨A8, c8, rfl, hc8, hC8⟩ := C_of_own hown rfl; have HC8 := Aside0.mk hC8; clear hown hC8)
            | (go_at_call 26; refine (sakiaref05_Same.calls 101 A8 c8 _ _ c7 _ true _ HC8.out hc8 (Kd.C_below hC.out hB13) hc7 HSAME.out).mono ?_; rintro e W14 ⟨rfl, hd14⟩; have hB14 := hB13.trans (hd14.below.mono hB13.size))
            | (go_at_call 7; refine (live _ (TW.out hB14)).mono ?_; rintro e W15 ⟨rfl, hbz⟩; have hB15 := hB14.trans (hbz.mono hB14.size)))
          go_ret
          exact ⟨rfl, BW.out hB15⟩
        | some q =>
          simp only [hq, num_some, Option.isSome_some] at hnext
          rw [hq] at hrn
          obtain rfl : (q : Int) = r := hrn
          have hq0 : (0 : Int) ≤ (q : Int) := by omega
          have hq1 : ¬ ((q : Int) < 0) := by omega
          clear hq
          have HLEAST := Aside0.mk hleast
          have HNEXT := Aside0.mk hnext
          have HLIST := Aside0.mk hlist
          have HNW := Aside0.mk hnw
          have HSAME := Aside0.mk hsame
          clear hleast hnext hlist hnw hsame
          go_wp2_with (first
            | (go_at_call 12; refine (HLEAST.out _ (TW.out hB9)).mono ?_; rintro e W10 ⟨rfl, hd10⟩; have hB10 := hB9.trans (hd10.below.mono hB9.size))
            | (go_at_call 14; refine (HNEXT.out _ (TW.out hB10)).mono ?_; rintro e W11 ⟨rfl, hd11⟩; have hB11 := hB10.trans (hd11.below.mono hB10.size); have hh11 := HW6.out hB11)
            | (refine gate_ (.load 30 (.tmp 6)) rfl ?_; refine wp_load30 rfl _ rfl W1.heap.size s rfl hh11 hs ?_)
            | (go_at_call 25; refine (HNW.out _).mono ?_; rintro e W12 ⟨rfl, hbx⟩; have hB12 := hB11.trans (hbx.mono hB11.size); have hxc12 := (hB12.cell (World.block_lt_of_cell? _ _ HXC.out)).trans HXC.out)
            | (go_at_call 27; refine (HLIST.out _ (TW.out hB12)).mono ?_; rintro e W13 ⟨v8, rfl, hown, hby⟩; have hB13 := hB12.trans (hby.mono hB12.size); obtain ⟨A8, c8, rfl, hc8, hC8⟩ := C_of_own hown rfl; have HC8 := Aside0.mk hC8; clear hown hC8)
            | (go_at_call 26; refine (sakiaref05_Same.calls 101 A8 c8 _ _ c7 _ true _ HC8.out hc8 (Kd.C_below hC.out hB13) hc7 HSAME.out).mono ?_; rintro e W14 ⟨rfl, hd14⟩; have hB14 := hB13.trans (hd14.below.mono hB13.size))
            | (go_at_call 7; refine (live _ (TW.out hB14)).mono ?_; rintro e W15 ⟨rfl, hbz⟩; have hB15 := hB14.trans (hbz.mono hB14.size)))
          go_ret
          exact ⟨rfl, BW.out hB15⟩
theorem tells_row (x : Nat) (i : Int) (hx : x < 2 ^ 64) (w : World) (hT : Tab w) :
    Calls Tryd.prog 6 #[.int .u64 (x : Int), .int .i64 i] w fun e w' => e = .returned (.bool true) ∧ Below w.heap.size w w' := tells x hx i w hT
end Go.Proofs.YtlhheknhkjcffaaDoor.Tz
