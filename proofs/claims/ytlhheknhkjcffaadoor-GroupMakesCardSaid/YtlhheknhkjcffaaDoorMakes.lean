/- The law GroupMakes answers true for every list of numbers and every number. No conditions but those that the theorems name. -/
import Derived.Test.YtlhheknhkjcffaaDoorLive
import Derived.Test.YtlhheknhkjcffaaDoorMakesPure
import Derived.RangeFuncBox
import Derived.RangeFuncNested
import Derived.RangeFuncBound
import Derived.RangeFuncCalls
import Derived.RangeFuncLeaves
import Derived.Shelf.Abstract
import Derived.Shelf.RegionOpen
import Derived.OwnWalkIn
import Derived.TacticsInMore
import Derived.LoopNIn
import Derived.LoopIn
import Derived.Deep.RegionHeld3
import Derived.Deep.MidRow
namespace Go.Proofs.YtlhheknhkjcffaaDoor.Tz
open Go Go.RowKit Go.Proofs.YtlhheknhkjcffaaDoor.PGroupParts Go.Proofs.YtlhheknhkjcffaaDoor.Pop Go.Proofs.YtlhheknhkjcffaaDoorW.PrintWords Go.Proofs.YtlhheknhkjcffaaDoorW.PrintLast Go.Proofs.YtlhheknhkjcffaaDoorW.PrintMore
attribute [local go_sem] max2_int min2_int max_two min_two max_three min_three max_four min_four
set_option linter.unusedVariables false
set_option linter.unusedSimpArgs false
theorem und30 : Tryd.prog.underlying 30 = some (.array 64 4) := by kernel_rfl
theorem siz30 (s : List Bool) (hs : s.length = 64) : (Tryd.prog.info? 30).map (·.size) = some (s.map Value.bool).length := by
  rw [List.length_map, hs]
  kernel_rfl
theorem range_blk {W : World} {g : Nat} {s : List Bool} (h : W.heap[g]? = some (.cells (bl s) 30 (0, 0))) : W.rangeAt g 0 (s.map Value.bool) := fun j v hj => by
  rw [Nat.zero_add, blk_cell h]
  simpa [bl] using hj
theorem range_below {W W' : World} {g B : Nat} {cs : List Value} (h : W.rangeAt g 0 cs) (hb : Below B W W') (hg : g < B) : W'.rangeAt g 0 cs := fun j v hj => by
  have := h j v hj
  rw [hb.cell hg]
  exact this
theorem draw_below (w : World) : Below w.heap.size w w.drew := (Drawn0.mk ⟨1, rfl⟩ : Drawn0 w (w.drewN 1)).below
def KeptG (w : World) (g1 g2 : Nat) (s f : List Bool) (w' : World) : Prop := Below w.heap.size w w' ∧ w'.heap[g1]? = some (.cells (bl s) 30 (0, 0)) ∧ w'.heap[g2]? = some (.cells (bl f) 30 (0, 0))
@[reducible] def SG (w : World) (g1 g2 : Nat) (s f : List Bool) (w' : World) : Prop := w'.rangeAt g1 0 (s.map Value.bool) ∧ w'.rangeAt g2 0 (f.map Value.bool) ∧ KeptG w g1 g2 s f w'
theorem SG.mk' {w : World} {g1 g2 : Nat} {s f : List Bool} {w' : World} (h : KeptG w g1 g2 s f w') : SG w g1 g2 s f w' := ⟨range_blk h.2.1, range_blk h.2.2, h⟩
theorem SG.next {w : World} {g1 g2 : Nat} {s f : List Bool} {w1 w2 : World} (hb : Below w1.heap.size w1 w2) (h : SG w g1 g2 s f w1) : SG w g1 g2 s f w2 := by
  obtain ⟨_, _, h1, h2, h3⟩ := h
  exact SG.mk' ⟨h1.trans (hb.mono h1.size), (hb.block g1 (Array.getElem?_eq_some_iff.1 h2).1).trans h2, (hb.block g2 (Array.getElem?_eq_some_iff.1 h3).1).trans h3⟩
theorem SG.drew {w : World} {g1 g2 : Nat} {s f : List Bool} {w1 : World} (h : SG w g1 g2 s f w1) : SG w g1 g2 s f w1.drew := SG.next (draw_below w1) h
theorem SG.bel {w : World} {g1 g2 : Nat} {s f : List Bool} {w1 : World} (h : SG w g1 g2 s f w1) : Below w.heap.size w w1 := h.2.2.1
theorem SG.tab {w : World} {g1 g2 : Nat} {s f : List Bool} {w1 : World} (h : SG w g1 g2 s f w1) (hT : Tab w) : Tab w1 := hT.below hT.pos h.bel
set_option maxRecDepth 100000 in
set_option maxHeartbeats 8000000 in
theorem makes_short (A0 : Option Addr) (cp : Nat) (l : List Int) (n : Int) (w : World) (hT : Tab w) (hr0 : Kd.C (Kd.int .i64) w A0 l.length l) (hc0 : l.length ≤ cp) (hlen : l.length ≤ 200)
    (s : List Bool) (hs : s.length = 64) (b : Bool) (hsb : ofSet (putAll l zer) = s ∧ (putAll l zer).isSome = b) (er : Int) (her : (if b = true then 0 else 1) = er) (hof : group_Of.f 201 l = some (((wv s : Nat) : Int), er)) :
    Calls Tryd.prog 3 #[.slice A0 l.length cp, .int .i64 n] w fun e w' => e = .returned (.bool true) ∧ Below w.heap.size w w' := by
  have hp := hT.pos
  have c0 : decide ((200 : Int) < (l.length : Int)) = false := decide_eq_false (by omega)
  have HR := Aside0.mk hr0
  have HSB := Aside0.mk hsb
  have HOF := Aside0.mk hof
  clear hr0 hsb hof
  cases b <;> (simp only [Bool.false_eq_true, if_true, if_false] at her; obtain rfl := her)
  all_goals
    have hlz := Aside0.mk (lowsTo_zero n)
    go_enter Tryd.func3, Tryd.ntmps3
    go_wp2_with (first
      | (go_at_call 8; refine (group_Of.calls 201 A0 cp l _ _ _ HR.out hc0 HOF.out).mono ?_; rintro e W1 ⟨rfl, hd1⟩; have hb1 := hd1.below; have hT1 := hT.below hp hb1; have hr1 := Aside0.mk (Kd.C_below HR.out hb1))
      | (go_at_call 9; refine (ofw A0 cp l _ hr1.out hc0 (by omega) s _ HSB.out).mono ?_; rintro e W2 ⟨rfl, hb2w⟩; have hb2 := hb1.trans (hb2w.mono hb1.size); have hn2 := blk_new W2 (.cells (bl zer) 30); have hB2 : Below w.heap.size w (W2.alloc (.cells (bl zer) 30)) := hb2.alloc hb2.size _)
      | (refine gate_ (.alloc 30) rfl ?_; refine wp_alloc30 rfl rfl ?_; try simp only [World.size_alloc])
      | (refine gate_ (.build 30 #[]) rfl ?_; refine wp_build30 rfl rfl ?_)
      | (refine gate_ (.store 30 (.tmp 7) (.tmp 24)) rfl ?_; refine wp_store30 rfl rfl _ _ rfl W2.heap.size zer s rfl rfl hn2 zer_len hs hB2 hb2.size ?_; intro W3 hh3 hb3 ho3; have hs3 := (Array.getElem?_eq_some_iff.1 hh3).1; have hn4 := blk_new W3 (.cells (bl zer) 30); have hB4 : Below w.heap.size w (W3.alloc (.cells (bl zer) 30)) := hb3.alloc hb3.size _; have hh4 : (W3.alloc (.cells (bl zer) 30)).heap[W2.heap.size]? = some (.cells (bl s) 30 (0, 0)) := (Below.heap_alloc _ _ _ hs3).trans hh3)
      | (refine gate_ (.store 30 (.tmp 10) (.tmp 28)) rfl ?_; refine wp_store30 rfl rfl _ _ rfl W3.heap.size zer zer rfl rfl hn4 zer_len zer_len hB4 hb3.size ?_; intro W5 hh5 hb5 ho5; have hg5 := (ho5 W2.heap.size (by omega)).trans hh4))
    go_loopg [11] 65 (fun kq v11 wr => ∃ i : Nat, i ≤ 64 ∧ i + kq = 65 ∧ v11 = .int .i64 (i : Int) ∧ wr.heap[W3.heap.size]? = some (.cells (bl (lowsTo n i)) 30 (0, 0)) ∧ wr.heap[W2.heap.size]? = some (.cells (bl s) 30 (0, 0)) ∧ Below w.heap.size w wr)
    case atStart => exact ⟨0, by omega, by omega, rfl, by rw [hlz.out]; exact hh5, hg5, hb5⟩
    case round =>
      obtain ⟨i, hi, hik, rfl, hbk, hbg, hbr⟩ := hrel
      by_cases h64 : i = 64
      · subst h64
        have c1 : decide (((64 : Nat) : Int) < 64) = false := by decide
        have hTr := hT.below hp hbr
        have hS0 : SG w W2.heap.size W3.heap.size s (lows n) wr := SG.mk' ⟨hbr, hbg, by rw [← lowsTo_all]; exact hbk⟩
        have hu := und30
        have hi1 := siz30 s hs
        have hi2 := siz30 (lows n) (lows_len n)
        clear hbk hbg hn4 hh4 hh3 hn2 hh5 hg5
        go_wp2
        refine start_ (n := 20) (S := SG w W2.heap.size W3.heap.size s (lows n)) (ds := []) #[false, false, false, false, false, false, false, false, false, false, false, false, false, false, false, false, false, false, false, false] (by kernel_rfl) rfl rfl (SG.drew hS0) (fun hS => ?_)
        refine pure_ (i := 0) (N := some 38) (v := ?_) (a' := ?_) #[true, false, false, false, false, false, false, false, false, false, false, false, false, false, false, false, false, false, false, false] rfl rfl (by kernel_rfl) (fun _ _ _ h => h) (Or.inl ⟨by rfl, ?_⟩) ?_ ?_
        rotate_left
        · intro w'
          go_simp
          try (with_reducible rfl)
        rotate_left
        · simp only [Act.put, List.setIfInBounds_toArray, List.set_cons_zero, List.set_cons_succ]
          rfl
        refine take_ (i := 1) (N := some 39) (a' := ?_) #[true, true, false, false, false, false, false, false, false, false, false, false, false, false, false, false, false, false, false, false] rfl rfl (by kernel_rfl) (fun _ _ _ h => h) (yieldsIf_load_mid (by rfl) 30 (.tmp 7) rfl _ _ rfl (s.map Value.bool) (.array 64 4) (fun w hw => hw.1) und30 rfl (siz30 _ (by first | exact hs | exact lows_len n))) hS ?_ ?_
        rotate_left
        · simp only [Act.put, List.setIfInBounds_toArray, List.set_cons_zero, List.set_cons_succ]
          rfl
        refine one_ (i := 2) (N := some 40) #[true, true, true, false, false, false, false, false, false, false, false, false, false, false, false, false, false, false, false, false] rfl rfl (by kernel_rfl) (by simp) (fun K hK => ?_)
        refine goes_ Tryd.func10 (by kernel_rfl) rfl #[.agg (bl s)] (by rfl) rfl rfl (by (try simp only [List.map_toArray, List.map_cons, List.map_nil]); first | done | rfl) ?_
        refine (word s hs _).mono ?_
        rintro e w' ⟨rfl, hbx⟩
        refine ⟨_, rfl, ?_⟩
        replace hS := SG.next hbx hS
        refine hK.out _ _ hS (fun _ => ?_)
        clear hK K
        refine norm_ (a' := ?_) ?_ ?_
        rotate_left
        · simp only [Act.put, List.setIfInBounds_toArray, List.set_cons_zero, List.set_cons_succ]
          rfl
        refine pure_ (i := 3) (N := some 41) (v := ?_) (a' := ?_) #[true, true, true, true, false, false, false, false, false, false, false, false, false, false, false, false, false, false, false, false] rfl rfl (by kernel_rfl) (fun _ _ _ h => h) (Or.inl ⟨by rfl, ?_⟩) ?_ ?_
        rotate_left
        · intro w'
          go_simp
          try (with_reducible rfl)
        rotate_left
        · simp only [Act.put, List.setIfInBounds_toArray, List.set_cons_zero, List.set_cons_succ]
          rfl
        refine pure_ (i := 4) (N := some 42) (v := ?_) (a' := ?_) #[true, true, true, true, true, false, false, false, false, false, false, false, false, false, false, false, false, false, false, false] rfl rfl (by kernel_rfl) (fun _ _ _ h => h) (Or.inl ⟨by rfl, ?_⟩) ?_ ?_
        rotate_left
        · intro w'
          go_simp
          try (with_reducible rfl)
        rotate_left
        · simp only [Act.put, List.setIfInBounds_toArray, List.set_cons_zero, List.set_cons_succ]
          rfl
        refine pure_ (i := 5) (N := some 43) (v := ?_) (a' := ?_) #[true, true, true, true, true, true, false, false, false, false, false, false, false, false, false, false, false, false, false, false] rfl rfl (by kernel_rfl) (fun _ _ _ h => h) (Or.inl ⟨by rfl, ?_⟩) ?_ ?_
        rotate_left
        · intro w'
          go_simp
          try (with_reducible rfl)
        rotate_left
        · simp only [Act.put, List.setIfInBounds_toArray, List.set_cons_zero, List.set_cons_succ]
          rfl
        refine pure_ (i := 6) (N := some 44) (v := ?_) (a' := ?_) #[true, true, true, true, true, true, true, false, false, false, false, false, false, false, false, false, false, false, false, false] rfl rfl (by kernel_rfl) (fun _ _ _ h => h) (Or.inl ⟨by rfl, ?_⟩) ?_ ?_
        rotate_left
        · intro w'
          go_simp
          try (with_reducible rfl)
        rotate_left
        · simp only [Act.put, List.setIfInBounds_toArray, List.set_cons_zero, List.set_cons_succ]
          rfl
        refine pure_ (i := 7) (N := some 45) (v := ?_) (a' := ?_) #[true, true, true, true, true, true, true, true, false, false, false, false, false, false, false, false, false, false, false, false] rfl rfl (by kernel_rfl) (fun _ _ _ h => h) (Or.inl ⟨by rfl, ?_⟩) ?_ ?_
        rotate_left
        · intro w'
          go_simp
          try (with_reducible rfl)
        rotate_left
        · simp only [Act.put, List.setIfInBounds_toArray, List.set_cons_zero, List.set_cons_succ]
          rfl
        refine pure_ (i := 8) (N := some 46) (v := ?_) (a' := ?_) #[true, true, true, true, true, true, true, true, true, false, false, false, false, false, false, false, false, false, false, false] rfl rfl (by kernel_rfl) (fun _ _ _ h => h) (Or.inl ⟨by rfl, ?_⟩) ?_ ?_
        rotate_left
        · intro w'
          go_simp
          try (with_reducible rfl)
        rotate_left
        · simp only [Act.put, List.setIfInBounds_toArray, List.set_cons_zero, List.set_cons_succ]
          rfl
        refine pure_ (i := 9) (N := some 47) (v := ?_) (a' := ?_) #[true, true, true, true, true, true, true, true, true, true, false, false, false, false, false, false, false, false, false, false] rfl rfl (by kernel_rfl) (fun _ _ _ h => h) (Or.inl ⟨by rfl, ?_⟩) ?_ ?_
        rotate_left
        · intro w'
          go_simp
          try (with_reducible rfl)
        rotate_left
        · simp only [Act.put, List.setIfInBounds_toArray, List.set_cons_zero, List.set_cons_succ]
          rfl
        refine pure_ (i := 10) (N := some 48) (v := ?_) (a' := ?_) #[true, true, true, true, true, true, true, true, true, true, true, false, false, false, false, false, false, false, false, false] rfl rfl (by kernel_rfl) (fun _ _ _ h => h) (Or.inl ⟨by rfl, ?_⟩) ?_ ?_
        rotate_left
        · intro w'
          go_simp
          try (with_reducible rfl)
        rotate_left
        · simp only [Act.put, List.setIfInBounds_toArray, List.set_cons_zero, List.set_cons_succ]
          rfl
        refine take_ (i := 12) (N := some 50) (a' := ?_) #[true, true, true, true, true, true, true, true, true, true, true, false, true, false, false, false, false, false, false, false] rfl rfl (by kernel_rfl) (fun _ _ _ h => h) (yieldsIf_load_mid (by rfl) 30 (.tmp 10) rfl _ _ rfl ((lows n).map Value.bool) (.array 64 4) (fun w hw => hw.2.1) und30 rfl (siz30 _ (by first | exact hs | exact lows_len n))) hS ?_ ?_
        rotate_left
        · simp only [Act.put, List.setIfInBounds_toArray, List.set_cons_zero, List.set_cons_succ]
          rfl
        refine one_ (i := 11) (N := some 49) #[true, true, true, true, true, true, true, true, true, true, true, true, true, false, false, false, false, false, false, false] rfl rfl (by kernel_rfl) (by simp) (fun K hK => ?_)
        refine goes_ Tryd.func11 (by kernel_rfl) rfl #[.int .i64 n] (by rfl) rfl rfl (by (try simp only [List.map_toArray, List.map_cons, List.map_nil]); first | done | rfl) ?_
        refine (group_Full.calls n _ _ (full_all n)).mono ?_
        rintro e w' ⟨rfl, hdx⟩
        refine ⟨_, rfl, ?_⟩
        replace hS := SG.next hdx.below hS
        refine hK.out _ _ hS (fun _ => ?_)
        clear hK K
        refine norm_ (a' := ?_) ?_ ?_
        rotate_left
        · simp only [Act.put, List.setIfInBounds_toArray, List.set_cons_zero, List.set_cons_succ]
          rfl
        refine one_ (i := 13) (N := some 51) #[true, true, true, true, true, true, true, true, true, true, true, true, true, true, false, false, false, false, false, false] rfl rfl (by kernel_rfl) (by simp) (fun K hK => ?_)
        refine goes_ Tryd.func10 (by kernel_rfl) rfl #[.agg (bl (lows n))] (by rfl) rfl rfl (by (try simp only [List.map_toArray, List.map_cons, List.map_nil]); first | done | rfl) ?_
        refine (word (lows n) (lows_len n) _).mono ?_
        rintro e w' ⟨rfl, hbx⟩
        refine ⟨_, rfl, ?_⟩
        replace hS := SG.next hbx hS
        refine hK.out _ _ hS (fun _ => ?_)
        clear hK K
        refine norm_ (a' := ?_) ?_ ?_
        rotate_left
        · simp only [Act.put, List.setIfInBounds_toArray, List.set_cons_zero, List.set_cons_succ]
          rfl
        refine pure_ (i := 14) (N := some 52) (v := ?_) (a' := ?_) #[true, true, true, true, true, true, true, true, true, true, true, true, true, true, true, false, false, false, false, false] rfl rfl (by kernel_rfl) (fun _ _ _ h => h) (Or.inl ⟨by rfl, ?_⟩) ?_ ?_
        rotate_left
        · intro w'
          go_simp
          try (with_reducible rfl)
        rotate_left
        · simp only [Act.put, List.setIfInBounds_toArray, List.set_cons_zero, List.set_cons_succ]
          rfl
        refine pure_ (i := 15) (N := some 53) (v := ?_) (a' := ?_) #[true, true, true, true, true, true, true, true, true, true, true, true, true, true, true, true, false, false, false, false] rfl rfl (by kernel_rfl) (fun _ _ _ h => h) (Or.inl ⟨by rfl, ?_⟩) ?_ ?_
        rotate_left
        · intro w'
          go_simp
          try (with_reducible rfl)
        rotate_left
        · simp only [Act.put, List.setIfInBounds_toArray, List.set_cons_zero, List.set_cons_succ]
          rfl
        refine pure_ (i := 16) (N := some 54) (v := ?_) (a' := ?_) #[true, true, true, true, true, true, true, true, true, true, true, true, true, true, true, true, true, false, false, false] rfl rfl (by kernel_rfl) (fun _ _ _ h => h) (Or.inl ⟨by rfl, ?_⟩) ?_ ?_
        rotate_left
        · intro w'
          go_simp
          try (with_reducible rfl)
        rotate_left
        · simp only [Act.put, List.setIfInBounds_toArray, List.set_cons_zero, List.set_cons_succ]
          rfl
        refine one_ (i := 17) (N := some 55) #[true, true, true, true, true, true, true, true, true, true, true, true, true, true, true, true, true, true, false, false] rfl rfl (by kernel_rfl) (by simp) (fun K hK => ?_)
        refine goes_ Tryd.func7 (by kernel_rfl) rfl #[] (by rfl) rfl rfl (by (try simp only [List.map_toArray, List.map_cons, List.map_nil]); first | done | rfl) ?_
        refine (live _ (SG.tab hS hT)).mono ?_
        rintro e w' ⟨rfl, hbx⟩
        refine ⟨_, rfl, ?_⟩
        replace hS := SG.next hbx hS
        refine hK.out _ _ hS (fun _ => ?_)
        clear hK K
        refine norm_ (a' := ?_) ?_ ?_
        rotate_left
        · simp only [Act.put, List.setIfInBounds_toArray, List.set_cons_zero, List.set_cons_succ]
          rfl
        refine pure_ (i := 18) (N := some 56) (v := ?_) (a' := ?_) #[true, true, true, true, true, true, true, true, true, true, true, true, true, true, true, true, true, true, true, false] rfl rfl (by kernel_rfl) (fun _ _ _ h => h) (Or.inl ⟨by rfl, ?_⟩) ?_ ?_
        rotate_left
        · intro w'
          go_simp
          try (with_reducible rfl)
        rotate_left
        · simp only [Act.put, List.setIfInBounds_toArray, List.set_cons_zero, List.set_cons_succ]
          rfl
        refine pure_ (i := 19) (N := some 4) (v := ?_) (a' := ?_) #[true, true, true, true, true, true, true, true, true, true, true, true, true, true, true, true, true, true, true, true] rfl rfl (by kernel_rfl) (fun _ _ _ h => h) (Or.inl ⟨by rfl, ?_⟩) ?_ ?_
        rotate_left
        · intro w'
          go_simp
          try (with_reducible rfl)
        rotate_left
        · simp only [Act.put, List.setIfInBounds_toArray, List.set_cons_zero, List.set_cons_succ]
          rfl
        refine done_ (by kernel_rfl) ?_
        go_wp2
        go_ret
        exact ⟨rfl, hS.bel⟩
      · cases gk with
        | zero => omega
        | succ g =>
          have c1 : decide ((i : Int) < 64) = true := decide_eq_true (by omega)
          have hi64 : (i : Int) < 64 := by omega
          have hfz := blk_frozen hbk i
          have hput := blk_put hbk i (.bool (decide ((i : Int) < n))) (cs' := bl (lowsTo n (i + 1))) (by rw [← lowsTo_step n i (by omega)]; simp [bl, List.map_set])
          have hcell : wr.cell? ⟨W3.heap.size, i, none⟩ = some (.bool ((lowsTo n i).getD i false)) := by
            rw [blk_cell hbk]
            simp [bl, List.getD_eq_getElem?_getD, lowsTo_len, show i < 64 by omega]
          go_wp2
          go_roundg g
          case measure => omega
          case rel =>
            exact ⟨i + 1, by omega, by omega, by simp, hput, (Below.heap_setCell _ ⟨W3.heap.size, i, none⟩ _ _ (by simp; omega)).trans hbg, hbr.setCell hb3.size _⟩
set_option maxRecDepth 100000 in
set_option maxHeartbeats 8000000 in
theorem makes (A0 : Option Addr) (cp : Nat) (l : List Int) (n : Int) (w : World) (hT : Tab w) (hr0 : Kd.C (Kd.int .i64) w A0 l.length l) (hc0 : l.length ≤ cp) (hl : (l.length : Int) ≤ 9223372036854775807) :
    Calls Tryd.prog 3 #[.slice A0 l.length cp, .int .i64 n] w fun e w' => e = .returned (.bool true) ∧ Below w.heap.size w w' := by
  have hp := hT.pos
  by_cases hlen : 200 < l.length
  · have c0 : decide ((200 : Int) < (l.length : Int)) = true := decide_eq_true (by omega)
    clear hr0
    go_enter Tryd.func3, Tryd.ntmps3
    go_wp2_with (go_at_call 7; refine (live _ hT).mono ?_; rintro e W3 ⟨rfl, hb3⟩)
    go_ret
    exact ⟨rfl, hb3⟩
  · have c0 : decide ((200 : Int) < (l.length : Int)) = false := decide_eq_false (by omega)
    have hof := of_all l (by omega)
    rw [outOf_is] at hof
    have hs : (ofSet (putAll l zer)).length = 64 := ofSet_len l
    obtain ⟨s, hse⟩ : ∃ s, ofSet (putAll l zer) = s := ⟨_, rfl⟩
    obtain ⟨b, hbe⟩ : ∃ b, (putAll l zer).isSome = b := ⟨_, rfl⟩
    rw [hse, hbe] at hof
    rw [hse] at hs
    have HR := Aside0.mk hr0
    have HSB := Aside0.mk (And.intro hse hbe)
    obtain ⟨er, her⟩ : ∃ er : Int, (if b = true then 0 else 1) = er := ⟨_, rfl⟩
    rw [her] at hof
    exact makes_short A0 cp l n w hT hr0 hc0 (by omega) s hs b ⟨hse, hbe⟩ er her hof
end Go.Proofs.YtlhheknhkjcffaaDoor.Tz
