/- The reference's Next answers the least number above another one. No conditions but those that the theorems name. -/
import Derived.Test.YtlhheknhkjcffaaDoorArr
namespace Go.Proofs.YtlhheknhkjcffaaDoor.Tz
open Go Go.RowKit Go.Proofs.YtlhheknhkjcffaaDoor.PGroupParts Go.Proofs.YtlhheknhkjcffaaDoor.Pop Go.Proofs.YtlhheknhkjcffaaDoorW.PrintWords Go.Proofs.YtlhheknhkjcffaaDoorW.PrintLast Go.Proofs.YtlhheknhkjcffaaDoorW.PrintMore
attribute [local go_sem] max2_int min2_int max_two min_two max_three min_three max_four min_four
set_option linter.unusedVariables false
set_option linter.unusedSimpArgs false
/-- the reference's Next: the first number above n that is in the list -/
def above (s : List Bool) (n : Int) : Option Nat := (List.range 64).find? fun j => decide ((j : Int) > n) && s.getD j false
def orMinus : Option Nat → Int | none => -1 | some k => (k : Int)
set_option maxRecDepth 100000 in
set_option maxHeartbeats 2000000 in
theorem nextw (s : List Bool) (hs : s.length = 64) (n r : Int) (w : World) (hr : orMinus (above s n) = r) :
    Calls Tryd.prog 25 #[.agg (bl s), .int .i64 n] w fun e w' => e = .returned (.int .i64 r) ∧ Below w.heap.size w w' := by
  have hbn := blk_new w (.cells (bl s) 30)
  have hb0 : Below w.heap.size w (w.alloc (.cells (bl s) 30)) := (Below.refl _ w).alloc (Nat.le_refl _) _
  have HR := Aside0.mk hr
  clear hr
  go_enter Tryd.func25, Tryd.ntmps25
  go_wp2
  go_loopg [5] 65 (fun kq v5 wr => ∃ i : Nat, i ≤ 64 ∧ i + kq = 65 ∧ v5 = .int .i64 (i : Int) ∧ (∀ j, j < i → (decide ((j : Int) > n) && s.getD j false) = false) ∧ wr.heap[w.heap.size]? = some (.cells (bl s) 30 (0, 0)) ∧ Below w.heap.size w wr)
  case atStart => exact ⟨0, by omega, by omega, rfl, fun j h => by omega, hbn, hb0⟩
  case round =>
    obtain ⟨i, hi, hik, rfl, hno, hbk, hbr⟩ := hrel
    by_cases h64 : i = 64
    · subst h64
      have c0 : decide (((64 : Nat) : Int) < 64) = false := by decide
      have e : above s n = none := List.find?_range_eq_none.2 fun j hj => by rw [hno j hj]; rfl
      obtain rfl : -1 = r := by rw [← HR.out, e]; rfl
      clear hno
      go_wp2
      go_ret
      exact ⟨rfl, hbr⟩
    · cases gk with
      | zero => omega
      | succ g =>
        have c0 : decide ((i : Int) < 64) = true := decide_eq_true (by omega)
        have hi64 : (i : Int) < 64 := by omega
        have hcell : wr.cell? ⟨w.heap.size, i, none⟩ = some (.bool (s.getD i false)) := by
          rw [blk_cell hbk]
          simp [bl, List.getD_eq_getElem?_getD, show i < s.length by omega]
        have HNO := Aside0.mk hno
        clear hno
        cases hc : (decide ((i : Int) > n) && s.getD i false) with
        | true =>
          have e : above s n = some i := List.find?_range_eq_some.2 ⟨hc, List.mem_range.2 (by omega), fun j hj => by rw [HNO.out j hj]; rfl⟩
          obtain rfl : (i : Int) = r := by rw [← HR.out, e]; rfl
          simp only [Bool.and_eq_true] at hc
          have c1 : decide (n < (i : Int)) = true := hc.1
          have c2 : s.getD i false = true := hc.2
          rw [c2] at hcell
          clear hc c2
          go_wp2
          go_ret
          exact ⟨rfl, hbr⟩
        | false =>
          have HN2 : Aside0 (∀ j, j < i + 1 → (decide ((j : Int) > n) && s.getD j false) = false) := Aside0.mk fun j hj => by
            by_cases h : j = i
            · subst h; exact hc
            · exact HNO.out j (by omega)
          by_cases h1 : n < (i : Int)
          · have c1 : decide (n < (i : Int)) = true := decide_eq_true h1
            have c2 : s.getD i false = false := by
              rw [show decide ((i : Int) > n) = true from decide_eq_true h1, Bool.true_and] at hc
              exact hc
            rw [c2] at hcell
            clear hc c2 h1
            go_wp2
            go_roundg g
            case measure => omega
            case rel => exact ⟨i + 1, by omega, by omega, by simp, HN2.out, hbk, hbr⟩
          · have c1 : decide (n < (i : Int)) = false := decide_eq_false h1
            clear hc h1
            go_wp2
            go_roundg g
            case measure => omega
            case rel => exact ⟨i + 1, by omega, by omega, by simp, HN2.out, hbk, hbr⟩
end Go.Proofs.YtlhheknhkjcffaaDoor.Tz
