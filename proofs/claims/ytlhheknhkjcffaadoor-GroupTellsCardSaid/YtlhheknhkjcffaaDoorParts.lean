/- The law GroupParts answers true for every two numbers of 64 digits. No conditions but those that the theorems name. -/
import Derived.Test.YtlhheknhkjcffaaDoorLive
import Derived.RangeFuncBox
import Derived.RangeFuncNested
import Derived.RangeFuncBound
import Derived.RangeFuncCalls
import Derived.RangeFuncLeaves
import Derived.Shelf.Abstract
import Derived.Shelf.RegionOpen
import Derived.OwnWalkIn
import Derived.TacticsInMore
import Derived.LoopNIn
import Derived.LoopIn
namespace Go.Proofs.YtlhheknhkjcffaaDoor.Tz
open Go Go.RowKit Go.Shelf Go.Proofs.YtlhheknhkjcffaaDoor.PGroupParts Go.Proofs.YtlhheknhkjcffaaDoor.Pop Go.Proofs.YtlhheknhkjcffaaDoorW.PrintWords Go.Proofs.YtlhheknhkjcffaaDoorW.PrintLast Go.Proofs.YtlhheknhkjcffaaDoorW.PrintMore
attribute [local go_sem] max2_int min2_int max_two min_two max_three min_three max_four min_four
attribute [local go_sem] Oper.semAt_some
set_option linter.unusedVariables false
set_option linter.unusedSimpArgs false
theorem len_is (x : Nat) (hx : x < 2 ^ 64) : group_Group_Len.f (x : Int) = some ((pc 64 x : Nat) : Int) := by
  unfold group_Group_Len.f
  rw [ones x hx]
  rfl
theorem pc_le (x : Nat) : pc 64 x ≤ 64 := by
  obtain ⟨_, _, _, _, _, _, _, _, _, _, _, h⟩ := summed (F 8 x) (pc 64 x) (pc64 x)
  exact h
set_option maxRecDepth 100000 in
set_option maxHeartbeats 4000000 in
theorem parts_walk (x y b l o pl py pb : Int) (w : World) (hT : Tab w) (A1 : group_Group_Both.f x y = some b) (A2 : group_Group_Less.f x y = some l) (A3 : group_Group_Both.f b l = some 0) (A4 : group_Group_Either.f b l = some x) (A5 : group_Group_Either.f x y = some o)
    (B1 : group_Group_Len.f l = some pl) (B2 : group_Group_Len.f y = some py) (B3 : group_Group_Len.f o = some (wrap64 (pl + py))) (B4 : group_Group_Len.f b = some pb) (B5 : group_Group_Len.f x = some (wrap64 (pb + pl)))
    (C1 : group_Group_Inside.f x y = some (l == 0)) (C2 : group_Group_Inside.f b y = some true) (C3 : group_Group_Inside.f x o = some true) :
    Calls Tryd.prog 5 #[.int .u64 x, .int .u64 y] w fun e w' => e = .returned (.bool true) ∧ Below w.heap.size w w' := by
  go_enter Tryd.func5, Tryd.ntmps5
  go_wp2_with (first
    | (go_at_call 16; refine (group_Group_Both.calls x y b _ A1).mono ?_; rintro e w' ⟨rfl, ⟨n1, rfl⟩⟩)
    | (go_at_call 17; refine (group_Group_Less.calls x y l _ A2).mono ?_; rintro e w' ⟨rfl, ⟨n2, rfl⟩⟩)
    | (go_at_call 16; refine (group_Group_Both.calls b l 0 _ A3).mono ?_; rintro e w' ⟨rfl, ⟨n3, rfl⟩⟩)
    | (go_at_call 18; refine (group_Group_Either.calls b l x _ A4).mono ?_; rintro e w' ⟨rfl, ⟨n4, rfl⟩⟩)
    | (go_at_call 18; refine (group_Group_Either.calls x y o _ A5).mono ?_; rintro e w' ⟨rfl, ⟨n5, rfl⟩⟩)
    | (go_at_call 15; refine (group_Group_Len.calls o _ _ B3).mono ?_; rintro e w' ⟨rfl, ⟨n6, rfl⟩⟩)
    | (go_at_call 15; refine (group_Group_Len.calls l pl _ B1).mono ?_; rintro e w' ⟨rfl, ⟨n7, rfl⟩⟩)
    | (go_at_call 15; refine (group_Group_Len.calls y py _ B2).mono ?_; rintro e w' ⟨rfl, ⟨n8, rfl⟩⟩)
    | (go_at_call 15; refine (group_Group_Len.calls b pb _ B4).mono ?_; rintro e w' ⟨rfl, ⟨n9, rfl⟩⟩)
    | (go_at_call 15; refine (group_Group_Len.calls x _ _ B5).mono ?_; rintro e w' ⟨rfl, ⟨n10, rfl⟩⟩)
    | (go_at_call 19; refine (group_Group_Inside.calls x y _ _ C1).mono ?_; rintro e w' ⟨rfl, ⟨n11, rfl⟩⟩)
    | (go_at_call 19; refine (group_Group_Inside.calls b y _ _ C2).mono ?_; rintro e w' ⟨rfl, ⟨n12, rfl⟩⟩)
    | (go_at_call 19; refine (group_Group_Inside.calls x o _ _ C3).mono ?_; rintro e w' ⟨rfl, ⟨n13, rfl⟩⟩)
    | (go_at_call 7; refine (live (w.drewN _) (hT.of_block rfl)).mono ?_; rintro e w' ⟨rfl, hb⟩))
  go_ret
  exact ⟨rfl, (Drawn0.mk ⟨_, rfl⟩ : Drawn0 w (w.drewN _)).below.trans (hb.mono (by simp))⟩
theorem and_lt (x y : Nat) (hy : y < 2 ^ 64) : x &&& y < 2 ^ 64 := Nat.and_lt_two_pow _ hy
theorem parts (x y : Nat) (hx : x < 2 ^ 64) (hy : y < 2 ^ 64) (w : World) (hT : Tab w) :
    Calls Tryd.prog 5 #[.int .u64 (x : Int), .int .u64 (y : Int)] w fun e w' => e = .returned (.bool true) ∧ Below w.heap.size w w' := by
  have hb := and_lt x y hy
  have hl := dif_lt x y hy
  have ho : x ||| y < 2 ^ 64 := Nat.or_lt_two_pow hx hy
  have out : ∀ (z : Nat), z < 2 ^ 64 → ∀ i, ¬ i < 64 → z.testBit i = false := fun z hz i hi => Nat.testBit_lt_two_pow (Nat.lt_of_lt_of_le hz (Nat.pow_le_pow_right (by omega) (by omega)))
  have e1 : (x &&& y) &&& dif x y = 0 := by
    apply Nat.eq_of_testBit_eq
    intro i
    rw [Nat.testBit_and, Nat.testBit_and, dif_bit x y i hy, Nat.zero_testBit]
    cases x.testBit i <;> cases y.testBit i <;> simp
  have e2 : (x &&& y) ||| dif x y = x := by
    apply Nat.eq_of_testBit_eq
    intro i
    rw [Nat.testBit_or, Nat.testBit_and, dif_bit x y i hy]
    by_cases hi : i < 64
    · simp only [hi, decide_true, Bool.true_and]
      cases x.testBit i <;> cases y.testBit i <;> rfl
    · rw [out x hx i hi]
      rfl
  have e3 : dif (x &&& y) y = 0 := by
    apply Nat.eq_of_testBit_eq
    intro i
    rw [dif_bit _ y i hy, Nat.testBit_and, Nat.zero_testBit]
    cases x.testBit i <;> cases y.testBit i <;> simp
  have e4 : dif x (x ||| y) = 0 := by
    apply Nat.eq_of_testBit_eq
    intro i
    rw [dif_bit _ _ i ho, Nat.testBit_or, Nat.zero_testBit]
    cases x.testBit i <;> cases y.testBit i <;> simp
  have w1 : wrap64 (((pc 64 (dif x y) : Nat) : Int) + ((pc 64 y : Nat) : Int)) = ((pc 64 (x ||| y) : Nat) : Int) := by
    rw [pc_or x y hy]
    have := pc_le (dif x y)
    have := pc_le y
    generalize pc 64 (dif x y) = p at *
    generalize pc 64 y = q at *
    unfold wrap64
    omega
  have w2 : wrap64 (((pc 64 (x &&& y) : Nat) : Int) + ((pc 64 (dif x y) : Nat) : Int)) = ((pc 64 x : Nat) : Int) := by
    rw [pc_parts x y hy]
    have := pc_le (dif x y)
    have := pc_le (x &&& y)
    generalize pc 64 (dif x y) = p at *
    generalize pc 64 (x &&& y) = q at *
    unfold wrap64
    omega
  refine parts_walk x y ((x &&& y : Nat) : Int) ((dif x y : Nat) : Int) ((x ||| y : Nat) : Int) _ _ _ w hT ?_ ?_ ?_ ?_ ?_ (len_is _ hl) (len_is _ hy) ?_ (len_is _ hb) ?_ ?_ ?_ ?_
  · exact congrArg some (bits_and x y hx hy)
  · exact congrArg some (bits_dif x y hx hy)
  · exact congrArg some ((bits_and _ _ hb hl).trans (by rw [e1]; rfl))
  · exact congrArg some ((bits_or _ _ hb hl).trans (by rw [e2]))
  · exact congrArg some (bits_or x y hx hy)
  · rw [w1]; exact len_is _ ho
  · rw [w2]; exact len_is _ hx
  · unfold group_Group_Inside.f; rw [bits_dif x y hx hy]
  · unfold group_Group_Inside.f; rw [bits_dif _ y hb hy, e3]; rfl
  · unfold group_Group_Inside.f; rw [bits_dif x _ hx ho, e4]; rfl
end Go.Proofs.YtlhheknhkjcffaaDoor.Tz
