/- The document's example answers true. No conditions but those that the theorems name. -/
import Derived.Test.YtlhheknhkjcffaaDoorLst
import Derived.RangeFuncBox
import Derived.RangeFuncNested
import Derived.RangeFuncBound
import Derived.RangeFuncCalls
import Derived.RangeFuncLeaves
import Derived.Shelf.Abstract
import Derived.Shelf.RegionOpen
import Derived.OwnWalkIn
import Derived.TacticsInMore
import Derived.LoopNIn
import Derived.LoopIn
namespace Go.Proofs.YtlhheknhkjcffaaDoor.Tz
open Go Go.RowKit Go.Shelf Go.Proofs.YtlhheknhkjcffaaDoor.PGroupParts Go.Proofs.YtlhheknhkjcffaaDoor.Pop Go.Proofs.YtlhheknhkjcffaaDoorW.PrintWords Go.Proofs.YtlhheknhkjcffaaDoorW.PrintLast Go.Proofs.YtlhheknhkjcffaaDoorW.PrintMore
attribute [local go_sem] max2_int min2_int max_two min_two max_three min_three max_four min_four
attribute [local go_sem] Oper.semAt_some
set_option linter.unusedVariables false
set_option linter.unusedSimpArgs false
theorem C_of_own {w : World} {base n : Nat} {v : Value} {xs : List Int} (h : w.ownsRow base 3 1 v n (ints xs)) (hn : xs.length = n) :
    ∃ A c, v = .slice A xs.length c ∧ xs.length ≤ c ∧ Kd.C (Kd.int .i64) w A xs.length xs := by
  subst hn
  have h2 : OwnRow (fun (x : Int) (cs : List Value) => cs = [.int .i64 x]) 3 1 w base v xs := ⟨ints xs, h, Kd.reps_scalar (enc := Value.int .i64) xs⟩
  exact h2.reads
theorem C_lit (w : World) (xs : List Int) (hl : xs.length ≤ 9223372036854775807) : Kd.C (Kd.int .i64) (w.alloc (.cells (ints xs).toArray 3)) (some ⟨w.heap.size, 0, none⟩) xs.length xs := by
  have h2 := OwnRow.lit (R := fun (x : Int) (cs : List Value) => cs = [.int .i64 x]) (e := 3) (size := 1) (ps := xs) w w.heap.size (inner := ints xs) (Kd.reps_scalar (enc := Value.int .i64) xs) (Nat.le_refl _) hl
  obtain ⟨A, c, e, _, hr⟩ := h2.reads
  simp at e
  obtain ⟨rfl, _⟩ := e
  exact hr
theorem live_of : group_Of.f 4 [3, 0, 3] = some (9, 0) := by kernel_rfl
theorem live_nx : nx 9 0 = some 3 := by kernel_rfl
theorem live_upto : upto 9 64 = [0, 3] := by kernel_rfl
theorem live_same : sakiaref05_Same.f 4 [0, 3] [0, 3] = some true := by kernel_rfl
theorem live_len : group_Group_Len.f 9 = some 2 := by kernel_rfl
theorem live_next (w : World) (hT : Tab w) : Calls Tryd.prog 14 #[.int .u64 9, .int .i64 0] w fun e w' => e = .returned (.tuple #[.int .i64 3, .bool true]) ∧ Drawn0 w w' := by
  have h := next 9 0 w (by decide) hT
  rw [live_nx] at h
  exact h
theorem live_list (w : World) (hT : Tab w) : Calls Tryd.prog 27 #[.int .u64 9] w fun e w' => ∃ A c, e = .returned (.slice A 2 c) ∧ 2 ≤ c ∧ Kd.C (Kd.int .i64) w' A 2 [0, 3] ∧ Below w.heap.size w w' := by
  have h := list27 9 (by decide) w hT
  rw [live_upto] at h
  refine h.mono ?_
  rintro e w' ⟨v, rfl, hown, hb⟩
  obtain ⟨A, c, rfl, hc, hC⟩ := C_of_own hown rfl
  exact ⟨A, c, rfl, hc, hC, hb⟩
set_option maxRecDepth 100000 in
set_option maxHeartbeats 4000000 in
theorem live (w : World) (hT : Tab w) : Calls Tryd.prog 7 #[] w fun e w' => e = .returned (.bool true) ∧ Below w.heap.size w w' := by
  have hp := hT.pos
  have hB0 : Below w.heap.size w (w.alloc (.cells #[.int .i64 3, .int .i64 0, .int .i64 3] 3)) := (Below.refl _ w).alloc (Nat.le_refl _) _
  go_enter Tryd.func7, Tryd.ntmps7
  go_wp2_with (first
    | (go_at_call 8; refine (group_Of.calls 4 (some ⟨w.heap.size, 0, none⟩) 3 [3, 0, 3] 9 0 _ (C_lit w [3, 0, 3] (by decide)) (by decide) live_of).mono ?_; rintro e W1 ⟨rfl, hd1⟩; have hb1 := hB0.trans (hd1.below.mono (by simp)); have hT1 := hT.below hp hb1)
    | (go_at_call 14; refine (live_next _ hT1).mono ?_; rintro e W2 ⟨rfl, hd2⟩; have hb2 := hb1.trans (hd2.below.mono hb1.size); have hT2 := hT.below hp hb2)
    | (go_at_call 27; refine (live_list _ hT2).mono ?_; rintro e W3 ⟨A, c, rfl, hc, hC, hb3⟩; have hb3' := hb2.trans (hb3.mono hb2.size); have hB4 : Below W3.heap.size W3 (W3.alloc (.cells #[.int .i64 0, .int .i64 3] 3)) := (Below.refl _ W3).alloc (Nat.le_refl _) _; have hb4 := hb3'.trans (hB4.mono hb3'.size))
    | (go_at_call 26; refine (sakiaref05_Same.calls 4 A c [0, 3] (some ⟨W3.heap.size, 0, none⟩) 2 [0, 3] true _ (Kd.C_below hC hB4) hc (C_lit W3 [0, 3] (by decide)) (by decide) live_same).mono ?_; rintro e W5 ⟨rfl, hd5⟩; have hb5 := hb4.trans (hd5.below.mono hb4.size))
    | (go_at_call 15; refine (group_Group_Len.calls 9 2 _ live_len).mono ?_; rintro e W6 ⟨rfl, hd6⟩; have hb6 := hb5.trans (hd6.below.mono hb5.size)))
  go_ret
  exact ⟨rfl, hb6⟩
end Go.Proofs.YtlhheknhkjcffaaDoor.Tz
