/- The law GroupWalks answers true for every number of 64 digits. No conditions but those that the theorems name. -/
import Derived.Test.YtlhheknhkjcffaaDoorParts
import Derived.Test.YtlhheknhkjcffaaDoorPGroupWalksx1
import Derived.RangeFuncBox
import Derived.RangeFuncNested
import Derived.RangeFuncBound
import Derived.RangeFuncCalls
import Derived.RangeFuncLeaves
import Derived.Shelf.Abstract
import Derived.Shelf.RegionOpen
import Derived.OwnWalkIn
import Derived.TacticsInMore
import Derived.LoopNIn
import Derived.LoopIn
namespace Go.Proofs.YtlhheknhkjcffaaDoor.Tz
open Go Go.RowKit Go.Shelf Go.Proofs.YtlhheknhkjcffaaDoor.PGroupParts Go.Proofs.YtlhheknhkjcffaaDoor.Pop Go.Proofs.YtlhheknhkjcffaaDoorW.PrintWords Go.Proofs.YtlhheknhkjcffaaDoorW.PrintLast Go.Proofs.YtlhheknhkjcffaaDoorW.PrintMore
attribute [local go_sem] max2_int min2_int max_two min_two max_three min_three max_four min_four
attribute [local go_sem] Oper.semAt_some
set_option linter.unusedVariables false
set_option linter.unusedSimpArgs false
theorem count_pc (n : Nat) : ∀ x : Nat, ((List.range n).filter fun j => x.testBit j).length = pc n x := by
  induction n with
  | zero => intro x; rfl
  | succ n ih =>
    intro x
    rw [List.range_succ_eq_map, List.filter_cons]
    have e : ((List.map Nat.succ (List.range n)).filter fun j => x.testBit j).length = pc n (x / 2) := by
      rw [List.filter_map, List.length_map, ← ih (x / 2)]
      congr 1
      apply List.filter_congr
      intro j _
      show x.testBit (j + 1) = (x / 2).testBit j
      rw [Nat.testBit_succ]
    rw [pc, ← e, Nat.testBit_zero]
    rcases Nat.mod_two_eq_zero_or_one x with h | h
    · simp [h]
    · simp [h]
      omega
theorem upto_pc (x : Nat) : (upto x 64).length = pc 64 x := by
  unfold upto
  rw [List.length_map]
  exact count_pc 64 x
theorem has_is (x k : Nat) (hx : x < 2 ^ 64) (hk : k < 64) (h : x.testBit k = true) : PGroupWalks.group_Group_Has.f (x : Int) (k : Int) = some true := by
  have e1 : PGroupWalks.group_in.f (k : Int) = some true := by
    unfold PGroupWalks.group_in.f
    rw [if_pos (by omega), decide_eq_true (by omega)]
  have e2 : shr .u64 (x : Int) (k : Int) = ((x / 2 ^ k : Nat) : Int) := by
    unfold shr
    rw [show min ((k : Int).toNat) (IntKind.bits .u64) = k by show min _ 64 = k; omega]
    simp
  have hlt : x / 2 ^ k < 2 ^ 64 := Nat.lt_of_le_of_lt (Nat.div_le_self _ _) hx
  have e3 : Go.bits .and .u64 ((x / 2 ^ k : Nat) : Int) ((1 : Nat) : Int) = (((x / 2 ^ k) % 2 : Nat) : Int) := by
    rw [bits_and _ 1 hlt (by omega), Nat.and_one_is_mod]
  have e4 : x / 2 ^ k % 2 = 1 := by
    rw [Nat.testBit_eq_decide_div_mod_eq] at h
    simpa using h
  rw [e4] at e3
  unfold PGroupWalks.group_Group_Has.f
  rw [e1]
  show (if true = true then (if 0 ≤ (k : Int) then some (Go.bits .and .u64 (shr .u64 (x : Int) (k : Int)) ((1 : Nat) : Int) == 1) else none) else some false) = some true
  rw [if_pos rfl, if_pos (by omega), e2, e3]
  rfl
theorem nx_first (x k : Nat) (hk : k < 64) : nx x (k : Int) = first x (k + 1) := by
  unfold nx
  by_cases h63 : 63 ≤ (k : Int)
  · rw [if_pos h63]
    exact (first_not fun j h1 h2 => by omega).symm
  · rw [if_neg h63, if_neg (by omega), show ((k : Int) + 1).toNat = k + 1 by omega]
set_option maxRecDepth 100000 in
set_option maxHeartbeats 4000000 in
theorem walks (x : Nat) (hx : x < 2 ^ 64) (w : World) (hT : Tab w) :
    Calls Tryd.prog 4 #[.int .u64 (x : Int)] w fun e w' => e = .returned (.bool true) ∧ Below w.heap.size w w' := by
  have hp := hT.pos
  go_enter Tryd.func4, Tryd.ntmps4
  go_wp2_with (go_at_call 12; refine (least x _ hx hT).mono ?_; rintro e W1 ⟨rfl, hd1⟩; have hb1 := hd1.below)
  go_loopg [4, 5, 6, 7, 8] 65 (fun kq v4 v5 v6 v7 v8 wr => ∃ m c : Nat, m + kq ≥ 65 ∧ m ≤ 64 ∧ c ≤ m ∧ c = (upto x m).length ∧ v4 = .int .i64 (num (first x m)) ∧ v5 = .bool (first x m).isSome ∧ v6 = .int .i64 (c : Int) ∧ v7 = .int .i64 ((m : Int) - 1) ∧ v8 = .int .i64 (c : Int) ∧ Below w.heap.size w wr)
  case atStart => exact ⟨0, 0, by omega, by omega, by omega, rfl, rfl, rfl, rfl, rfl, rfl, hb1⟩
  case round =>
    obtain ⟨m, c, hmk, hm, hcm, hc, rfl, rfl, rfl, rfl, rfl, hbr⟩ := hrel
    have hTr := hT.below hp hbr
    have c0 : decide ((c : Int) < 70) = true := decide_eq_true (by omega)
    rcases hf : first x m with _ | k
    · simp only [num_none, Option.isSome_none]
      have hlen : group_Group_Len.f (x : Int) = some (c : Int) := by
        rw [len_is x hx, ← upto_pc, upto_same hm (first_none hf), ← hc]
      go_wp2_with (first
        | (go_at_call 15; refine (group_Group_Len.calls x c _ hlen).mono ?_; rintro e W2 ⟨rfl, hd2⟩; have hb2 := hbr.trans (hd2.below.mono hbr.size); have hT2 := hT.below hp hb2)
        | (go_at_call 7; refine (live _ hT2).mono ?_; rintro e W3 ⟨rfl, hb3⟩))
      go_ret
      exact ⟨rfl, hb2.trans (hb3.mono hb2.size)⟩
    · obtain ⟨hnk, hk64, hbk, hlow⟩ := first_some hf
      have c1 : decide ((k : Int) ≤ (m : Int) - 1) = false := decide_eq_false (by omega)
      have eu : upto x k = upto x m := upto_same hnk hlow
      simp only [num_some, Option.isSome_some]
      cases gk with
      | zero => omega
      | succ g =>
        go_wp2_with (first
          | (go_at_call 13; refine (PGroupWalks.group_Group_Has.calls x k true _ (has_is x k hx hk64 hbk)).mono ?_; rintro e W2 ⟨rfl, hd2⟩; have hb2 := hbr.trans (hd2.below.mono hbr.size); have hT2 := hT.below hp hb2)
          | (go_at_call 14; refine (next x k _ hx hT2).mono ?_; rintro e W3 ⟨rfl, hd3⟩; have hb3 := hb2.trans (hd3.below.mono hb2.size)))
        go_roundg g
        case measure => omega
        case rel =>
          rw [nx_first x k hk64]
          refine ⟨k + 1, c + 1, by omega, by omega, by omega, ?_, rfl, rfl, ?_, ?_, ?_, hb3⟩
          · rw [upto_succ hbk, eu, List.length_append, ← hc]
            rfl
          · rw [← hc]
            rfl
          · rw [show (((k + 1 : Nat) : Int) - 1) = (k : Int) by omega]
          · rw [← hc]
            rfl
end Go.Proofs.YtlhheknhkjcffaaDoor.Tz
