/- The iterator All hands out the numbers of a group, rising. No conditions but those that the theorems name. -/
import Derived.Test.YtlhheknhkjcffaaDoorTz
import Derived.RangeFuncBox
import Derived.RangeFuncNested
import Derived.RangeFuncBound
import Derived.RangeFuncCalls
import Derived.RangeFuncLeaves
import Derived.Shelf.Abstract
import Derived.Shelf.RegionOpen
import Derived.OwnWalkIn
import Derived.TacticsInMore
import Derived.LoopNIn
import Derived.LoopIn
namespace Go.Proofs.YtlhheknhkjcffaaDoor.Tz
open Go Go.RowKit Go.Shelf Go.Proofs.YtlhheknhkjcffaaDoor.PGroupParts Go.Proofs.YtlhheknhkjcffaaDoor.Pop Go.Proofs.YtlhheknhkjcffaaDoorW.PrintWords Go.Proofs.YtlhheknhkjcffaaDoorW.PrintLast Go.Proofs.YtlhheknhkjcffaaDoorW.PrintMore
attribute [local go_sem] max2_int min2_int max_two min_two max_three min_three max_four min_four
attribute [local go_sem] Oper.semAt_some
set_option linter.unusedVariables false
set_option linter.unusedSimpArgs false
/-- the numbers of a group below a number, rising -/
def upto (x n : Nat) : List Int := ((List.range n).filter fun j => x.testBit j).map fun j : Nat => (j : Int)
theorem upto_same {x n k : Nat} (hnk : n ≤ k) (h : ∀ j, n ≤ j → j < k → x.testBit j = false) : upto x k = upto x n := by
  obtain ⟨d, rfl⟩ : ∃ d, k = n + d := ⟨k - n, by omega⟩
  induction d with
  | zero => rfl
  | succ d ih =>
    have e : upto x (n + (d + 1)) = upto x (n + d) := by
      unfold upto
      rw [show n + (d + 1) = (n + d) + 1 by omega, List.range_succ, List.filter_append]
      simp [h (n + d) (by omega) (by omega)]
    rw [e]
    exact ih (by omega) fun j h1 h2 => h j h1 (by omega)
theorem upto_succ {x k : Nat} (h : x.testBit k = true) : upto x (k + 1) = upto x k ++ [(k : Int)] := by
  unfold upto
  rw [List.range_succ, List.filter_append]
  simp [h]
theorem upto_prefix (x k : Nat) (hk : k < 64) (h : x.testBit k = true) : upto x k ++ [(k : Int)] <+: upto x 64 := by
  rw [← upto_succ h]
  unfold upto
  refine List.IsPrefix.map _ (List.IsPrefix.filter _ ?_)
  rw [List.prefix_iff_eq_take, List.take_range, List.length_range, Nat.min_eq_left (by omega)]
theorem upto_len (x n : Nat) : (upto x n).length ≤ n := by
  unfold upto
  rw [List.length_map]
  exact Nat.le_trans (List.length_filter_le _ _) (by simp)
theorem upto_lt {x n k : Nat} (hk : n ≤ k) (h1 : k < 64) (h : x.testBit k = true) : (upto x n).length < 64 := by
  have := upto_len x n
  omega
theorem num_none : num none = 0 := rfl
theorem num_some (k : Nat) : num (some k) = (k : Int) := rfl
def left (v3 v4 : Value) : Nat := match v4 with | .bool true => 65 - (intOf v3).toNat | _ => 0
/-- what a round keeps: the iterator's own box, and the table -/
def KB (Bn : Nat) (A B : World) : Prop := B.heap[Bn]? = A.heap[Bn]? ∧ B.heap[0]? = A.heap[0]?
theorem KB_t {Bn : Nat} {A B C : World} (h : KB Bn A B) (k : KB Bn B C) : KB Bn A C := ⟨Eq.trans k.1 h.1, Eq.trans k.2 h.2⟩
theorem KB_b {Bn : Nat} {w : World} (hB : Bn < w.heap.size) (W : World) (l : Nat) (o o' : Obj) (hl : w.heap.size ≤ l) (h : W.heap[l]? = some o) (_ : o.isCells = false) (_ : o.isWalk = false) : KB Bn W (W.putObj l o') := by
  have hlt := (Array.getElem?_eq_some_iff.1 h).1
  exact ⟨(grownBy_putObj' W l o').block Bn (by omega) (fun e => by cases e; omega), (grownBy_putObj' W l o').block 0 (by omega) (fun e => by cases e; omega)⟩
theorem grown_of_drawn {w w' : World} (h : Drawn0 w w') : w.grownBy w' none := by
  have h := h.below
  exact ⟨h.os, h.tape, h.output, h.size, fun k hk _ => h.block k hk⟩
set_option maxRecDepth 100000 in
set_option maxHeartbeats 2000000 in
theorem all32 (l Bn : Nat) (x : Nat) (hx : x < 2 ^ 64) (J Jx : List Int → World → Prop)
    (hJ : ∀ pre W W', J pre W → W.grownBy W' none → J pre W')
    (hY : ∀ pre y W, J pre W → pre.length < 64 → YieldAt Fence.wide 2 Tryd.prog l #[.int .i64 y] W fun e W' =>
      (e = .returned (.bool true) ∧ J (pre ++ [y]) W' ∧ KB Bn W W') ∨ (e = .returned (.bool false) ∧ Jx (pre ++ [y]) W'))
    (W : World) (hT : Tab W) (hB0 : W.heap[Bn]? = some (.cells #[.int .u64 (x : Int)] 25 (0, 0))) (h0 : J [] W) :
    CallsIn Fence.wide 3 Tryd.prog 32 #[.func (.yield l) #[] #[], .pointer (some ⟨Bn, 0, none⟩)] W fun e W' => (∃ v, e = .returned v) ∧
      ((∃ ys, ys = upto x 64 ∧ J ys W') ∨ (∃ pre, pre <+: upto x 64 ∧ Jx pre W')) := by
  refine callsIn_of_wp Tryd.func32 rfl trivial ?_ rfl
  simp only [Tryd.ntmps32, List.size_toArray, List.length_cons, List.length_nil, Nat.reduceAdd, Nat.reduceSub, Array.replicate_succ, Array.replicate_zero, List.push_toArray, List.append_toArray, List.nil_append, List.cons_append]
  have cc : ∀ W' : World, W'.heap[Bn]? = W.heap[Bn]? → W'.cell? ⟨Bn, 0, none⟩ = some (.int .u64 (x : Int)) := fun W' h => by
    rw [hB0] at h
    simp [World.cell?, h]
  have hBl : Bn < W.heap.size := (Array.getElem?_eq_some_iff.1 hB0).1
  have c0 := cc W rfl
  gi_wp2_with (refine ⟨trivial, ?_⟩; gi_at_call 12; refine (callsIn_wide.2 (least x _ hx hT)).mono ?_; rintro e W1 ⟨rfl, hd1⟩; have hk1 := hd1.below.block Bn hBl; have d0 := cc W1 hk1)
  have hJ1 : J [] W1 := hJ _ _ _ h0 (grown_of_drawn hd1)
  have hz1 : W1.heap[0]? = W.heap[0]? := hd1.below.block 0 hT.pos
  gi_loopw [3, 4] (fun v3 v4 wr => ∃ n : Nat, n ≤ 64 ∧ v3 = .int .i64 (num (first x n)) ∧ v4 = .bool (first x n).isSome ∧ J (upto x n) wr ∧ wr.heap[Bn]? = W.heap[Bn]? ∧ wr.heap[0]? = W.heap[0]?) (fun v3 v4 wr => left v3 v4)
  case atStart =>
    exact ⟨0, by omega, rfl, rfl, hJ1, hk1, hz1⟩
  case round =>
    obtain ⟨n, hn, rfl, rfl, hJn, hkn, hzn⟩ := hrel
    have e0 := cc wr hkn
    rcases hf : first x n with _ | k
    · simp only [num_none, Option.isSome_none]
      gi_wp2_with (refine wpListIn_skip rfl rfl ?_)
      go_end0
      have e : upto x 64 = upto x n := upto_same hn (first_none hf)
      exact ⟨⟨_, rfl⟩, .inl ⟨_, rfl, by rw [e]; exact hJn⟩⟩
    · obtain ⟨hnk, hk64, hbk, hlow⟩ := first_some hf
      have eu : upto x k = upto x n := upto_same hnk hlow
      obtain ⟨fn, tmps, assign, body, hy, hR⟩ := hY (upto x n) (k : Int) wr hJn (upto_lt hnk hk64 hbk)
      rw [← eu, ← upto_succ hbk] at hR
      simp only [num_some, Option.isSome_some]
      gi_wp2
      refine hR.mono ?_
      rintro e W3 (⟨rfl, hJ3, hk3⟩ | ⟨rfl, hJx3⟩)
      · have hk4 : W3.heap[Bn]? = W.heap[Bn]? := hk3.1.trans hkn
        have hz4 : W3.heap[0]? = W.heap[0]? := hk3.2.trans hzn
        have e3 := cc W3 hk4
        have hnx : nx x (k : Int) = first x (k + 1) := by
          unfold nx
          by_cases h63 : 63 ≤ (k : Int)
          · rw [if_pos h63]
            exact (first_not fun j h1 h2 => by omega).symm
          · rw [if_neg h63, if_neg (by omega), show ((k : Int) + 1).toNat = k + 1 by omega]
        gi_wp2_with (refine ⟨trivial, ?_⟩; gi_at_call 14; refine (callsIn_wide.2 (next x (k : Int) _ hx (hT.of_block hz4))).mono ?_; rintro e W4 ⟨rfl, hd4⟩)
        go_roundw
        case rel => exact ⟨k + 1, by omega, rfl, rfl, hJ _ _ _ hJ3 (grown_of_drawn hd4), (hd4.below.block Bn (by have := (Array.getElem?_eq_some_iff.1 (hk4.trans hB0)).1; omega)).trans hk4, (hd4.below.block 0 (hT.of_block hz4).pos).trans hz4⟩
        case measure =>
          rcases hf2 : first x (k + 1) with _ | k2
          · simp [left, intOf]
            omega
          · obtain ⟨h1, h2, _, _⟩ := first_some hf2
            simp [left, intOf, num]
            omega
      · gi_wp2
        go_end0
        exact ⟨⟨_, rfl⟩, .inr ⟨_, upto_prefix x k hk64 hbk, by rw [← upto_succ hbk]; exact hJx3⟩⟩
end Go.Proofs.YtlhheknhkjcffaaDoor.Tz
