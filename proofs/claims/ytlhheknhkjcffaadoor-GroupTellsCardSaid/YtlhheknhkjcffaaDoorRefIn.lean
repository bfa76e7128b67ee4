/- The reference's In answers whether a number lies from 0 to 63. No conditions but those that the theorems name. -/
import Derived.Test.YtlhheknhkjcffaaDoorArr
namespace Go.Proofs.YtlhheknhkjcffaaDoor.Tz
open Go Go.RowKit Go.Proofs.YtlhheknhkjcffaaDoor.PGroupParts Go.Proofs.YtlhheknhkjcffaaDoor.Pop Go.Proofs.YtlhheknhkjcffaaDoorW.PrintWords Go.Proofs.YtlhheknhkjcffaaDoorW.PrintLast Go.Proofs.YtlhheknhkjcffaaDoorW.PrintMore
attribute [local go_sem] max2_int min2_int max_two min_two max_three min_three max_four min_four
set_option linter.unusedVariables false
set_option linter.unusedSimpArgs false
def inB (i : Int) : Bool := decide (0 ≤ i) && decide (i < 64)
set_option maxRecDepth 100000 in
theorem inw (i : Int) (w : World) : Calls Tryd.prog 22 #[.int .i64 i] w fun e w' => e = .returned (.bool (inB i)) ∧ Drawn0 w w' := by
  unfold inB
  by_cases h : 0 ≤ i
  · have c0 : decide (0 ≤ i) = true := decide_eq_true h
    rw [c0, Bool.true_and]
    clear h
    go_enter Tryd.func22, Tryd.ntmps22
    go_wp2
    go_ret
    exact ⟨rfl, by repeat (first | exact Drawn0.refl _ | apply Drawn0.step)⟩
  · have c0 : decide (0 ≤ i) = false := decide_eq_false h
    rw [c0, Bool.false_and]
    clear h
    go_enter Tryd.func22, Tryd.ntmps22
    go_wp2
    go_ret
    exact ⟨rfl, by repeat (first | exact Drawn0.refl _ | apply Drawn0.step)⟩
end Go.Proofs.YtlhheknhkjcffaaDoor.Tz
