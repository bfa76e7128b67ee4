/- A list of 64 truths as a letter: its word, and whole loads and stores of it. No conditions but those that the theorems name. -/
import Derived.Test.YtlhheknhkjcffaaDoorLive
import Derived.Deep.WholeRow
import Derived.Deep.MidRow
import Derived.Laws.ResultCell
namespace Go.Proofs.YtlhheknhkjcffaaDoor.Tz
open Go Go.RowKit Go.Proofs.YtlhheknhkjcffaaDoor.PGroupParts Go.Proofs.YtlhheknhkjcffaaDoor.Pop Go.Proofs.YtlhheknhkjcffaaDoorW.PrintWords Go.Proofs.YtlhheknhkjcffaaDoorW.PrintLast Go.Proofs.YtlhheknhkjcffaaDoorW.PrintMore
attribute [local go_sem] max2_int min2_int max_two min_two max_three min_three max_four min_four
set_option linter.unusedVariables false
set_option linter.unusedSimpArgs false
def bl (s : List Bool) : Array Value := (s.map Value.bool).toArray
/-- the word of a list of truths, the first one the lowest digit -/
def wv : List Bool → Nat
  | [] => 0
  | b :: r => 2 * wv r + b.toNat
theorem wv_lt (s : List Bool) : wv s < 2 ^ s.length := by
  induction s with
  | nil => simp [wv]
  | cons b s ih =>
    rw [wv, List.length_cons, Nat.pow_succ]
    have : b.toNat ≤ 1 := Bool.toNat_le b
    omega
theorem wv_drop (s : List Bool) (i : Nat) (hi : i < s.length) : wv (s.drop i) = 2 * wv (s.drop (i + 1)) + (s.getD i false).toNat := by
  rw [List.drop_eq_getElem_cons hi, wv]
  simp [List.getD_eq_getElem?_getD, hi]
theorem wv_drop_lt (s : List Bool) (hs : s.length = 64) (i : Nat) : wv (s.drop i) < 2 ^ (64 - i) := by
  have := wv_lt (s.drop i)
  rwa [List.length_drop, hs] at this
theorem wv_half (s : List Bool) (hs : s.length = 64) (i : Nat) : 2 * wv (s.drop (i + 1)) < 2 ^ 64 := by
  have h := wv_drop_lt s hs (i + 1)
  have : 2 ^ (64 - (i + 1)) ≤ 2 ^ 63 := Nat.pow_le_pow_right (by omega) (by omega)
  omega
set_option maxRecDepth 100000 in
set_option maxHeartbeats 2000000 in
theorem word (s : List Bool) (hs : s.length = 64) (w : World) :
    Calls Tryd.prog 10 #[.agg (bl s)] w fun e w' => e = .returned (.int .u64 (wv s : Nat)) ∧ Below w.heap.size w w' := by
  have hbn := blk_new w (.cells (bl s) 30)
  have hb0 : Below w.heap.size w (w.alloc (.cells (bl s) 30)) := (Below.refl _ w).alloc (Nat.le_refl _) _
  go_enter Tryd.func10, Tryd.ntmps10
  go_wp2
  go_loopg [3, 4] 65 (fun kq v3 v4 wr => ∃ j : Nat, j ≤ 64 ∧ j < kq ∧ v3 = .int .u64 ((wv (s.drop j) : Nat) : Int) ∧ v4 = .int .i64 ((j : Int) - 1) ∧ wr.heap[w.heap.size]? = some (.cells (bl s) 30 (0, 0)) ∧ Below w.heap.size w wr)
  case atStart =>
    refine ⟨64, by omega, by omega, ?_, rfl, hbn, hb0⟩
    rw [List.drop_eq_nil_of_le (by omega)]
    rfl
  case round =>
    obtain ⟨j, hj, hjk, rfl, rfl, hbk, hbr⟩ := hrel
    rcases j with _ | i
    · have c0 : decide (0 ≤ ((0 : Nat) : Int) - 1) = false := by decide
      rw [List.drop_zero]
      go_wp2
      go_ret
      exact ⟨rfl, hbr⟩
    · cases gk with
      | zero => omega
      | succ g =>
        rw [show (((i + 1 : Nat) : Int) - 1) = (i : Int) by omega]
        have hcell : wr.cell? ⟨w.heap.size, i, none⟩ = some (.bool (s.getD i false)) := by
          rw [blk_cell hbk]
          simp [bl, List.getD_eq_getElem?_getD, show i < s.length by omega]
        have c0 : decide (0 ≤ (i : Int)) = true := decide_eq_true (by omega)
        have hi64 : (i : Int) < 64 := by omega
        have hw := wv_drop s i (by omega)
        have hlt := wv_half s hs i
        have hlt2 : wv (s.drop i) < 2 ^ 64 := Nat.lt_of_lt_of_le (wv_drop_lt s hs i) (Nat.pow_le_pow_right (by omega) (by omega))
        obtain ⟨y, hws⟩ : ∃ y, wv (s.drop i) = y := ⟨_, rfl⟩
        rw [hws] at hw hlt2
        generalize wv (s.drop (i + 1)) = z at *
        generalize s.getD i false = b at *
        cases b with
        | true =>
          go_wp2
          go_roundg g
          case measure => omega
          case rel =>
            exact ⟨i, by omega, by omega, by rw [hws, hw]; rfl, rfl, hbk, hbr⟩
        | false =>
          go_wp2
          go_roundg g
          case measure => omega
          case rel =>
            exact ⟨i, by omega, by omega, by rw [hws, hw]; rfl, rfl, hbk, hbr⟩
/-- the empty list of truths -/
def zer : List Bool := List.replicate 64 false
theorem zer_len : zer.length = 64 := by simp [zer]
theorem info30 : (Tryd.prog.info? 30).map (fun i => (i.zero, i.size, i.bytes)) = some (some (.agg (bl zer)), 64, 64) := by kernel_rfl
theorem run_zero30 (w : World) : (zeroValue 30).run Tryd.prog w = .ok (.agg (bl zer)) w := by
  obtain ⟨i0, hi, hz0, hz1, hz2⟩ := info_parts info30
  simp [zeroValue, typeInfo, hi, hz0]
theorem wp_alloc30 {ops : Array Oper} {rest : List Oper} {o : Oper} {a : Act} {Q : Exit → Act → World → Prop} {W : World} (hgd : o.guard = none) (ho : o.op = .alloc 30)
    (h : wpList Tryd.prog ops Q rest (a.put o.dst (.pointer (some ⟨W.heap.size, 0, none⟩))) (W.alloc (.cells (bl zer) 30))) : wpList Tryd.prog ops Q (o :: rest) a W := by
  refine wpList_plain hgd fun K hK => ?_
  have hrun : (Instr.alloc 30 true (.tuple #[])).run Tryd.prog W = .ok (.pointer (some ⟨W.heap.size, 0, none⟩)) (W.alloc (.cells (bl zer) 30)) := by
    unfold Instr.alloc
    simp [run_zero30, newVar, newRow, Value.cells, go_sem]
    rfl
  unfold Oper.wp execOp
  simp only [ho, Sem.run_bind, Sem.run_pure, Result.andThen_ok, hrun]
  exact hK _ _ h
theorem wp_build30 {ops : Array Oper} {rest : List Oper} {o : Oper} {a : Act} {Q : Exit → Act → World → Prop} {W : World} (hgd : o.guard = none) (ho : o.op = .build 30 #[])
    (h : wpList Tryd.prog ops Q rest (a.put o.dst (.agg (bl zer))) W) : wpList Tryd.prog ops Q (o :: rest) a W := by
  refine wpList_plain hgd fun K hK => ?_
  have hu : Tryd.prog.underlying 30 = some (.array 64 4) := by kernel_rfl
  have hs : (Tryd.prog.info? 4).map (·.size) = some 1 := by kernel_rfl
  obtain ⟨i4, hi4, hs4⟩ := Option.map_eq_some_iff.1 hs
  have hrun : (Instr.build 30 #[]).run Tryd.prog W = .ok (.agg (bl zer)) W := by
    unfold Instr.build
    simp [run_zero30, underlying, hu, sizeOf, typeInfo, hi4, Instr.fill, Value.cells, go_sem]
    rfl
  unfold Oper.wp execOp
  simp only [ho, List.map_toArray, List.map_nil, Sem.run_bind, Sem.run_pure, Result.andThen_ok, hrun]
  exact hK _ _ h
theorem setCells_all {g : Nat} {t : TypeId} (seg : List Value) : ∀ (pre mid : List Value) (W : World), W.heap[g]? = some (.cells (pre ++ mid).toArray t (0, 0)) → mid.length = seg.length → (W.setCells g pre.length seg).heap[g]? = some (.cells (pre ++ seg).toArray t (0, 0)) := by
  induction seg with
  | nil =>
    intro pre mid W h hl
    obtain rfl := List.eq_nil_of_length_eq_zero hl
    exact h
  | cons v seg ih =>
    intro pre mid W h hl
    match mid, hl with
    | m :: mid, hl =>
      have h1 := blk_set h pre.length v
      have e : (pre ++ m :: mid).toArray.setIfInBounds pre.length v = ((pre ++ [v]) ++ mid).toArray := by simp
      rw [e] at h1
      have h2 := ih (pre ++ [v]) mid _ h1 (by simpa using hl)
      simpa [World.setCells] using h2
theorem below_setCells {B g : Nat} {w : World} (seg : List Value) : ∀ (o : Nat) (W : World), Below B w W → B ≤ g → Below B w (W.setCells g o seg) := by
  induction seg with
  | nil => intro o W h _; exact h
  | cons v seg ih => intro o W h hg; exact ih (o + 1) _ (h.setCell hg v) hg
theorem setCells_other {g j : Nat} (hj : j ≠ g) (seg : List Value) : ∀ (o : Nat) (W : World), (W.setCells g o seg).heap[j]? = W.heap[j]? := by
  induction seg with
  | nil => intro o W; rfl
  | cons v seg ih =>
    intro o W
    exact (ih (o + 1) _).trans (Below.heap_setCell W ⟨g, o, none⟩ v j hj)
theorem bl_size (s : List Bool) : (bl s).size = s.length := by simp [bl]
theorem bl_one (s : List Bool) : ∀ q ∈ (bl s).toList, q.oneCell' = true := by
  intro q hq
  simp only [bl, List.mem_map] at hq
  obtain ⟨b, _, rfl⟩ := hq
  rfl
theorem size30 (s : List Bool) (hs : s.length = 64) : (Tryd.prog.info? 30).map (·.size) = some (bl s).size := by
  rw [bl_size, hs]
  kernel_rfl
/-- a whole list of truths is stored into a variable of the call's own -/
theorem wp_store30 {ops : Array Oper} {rest : List Oper} {o : Oper} {a : Act} {Q : Exit → Act → World → Prop} {w0 W : World} {B : Nat} (hgd : o.guard = none) (hN : o.dst = none) (x y : Operand) (ho : o.op = .store 30 x y)
    (g : Nat) (s s' : List Bool) (hx : a.eval x = .pointer (some ⟨g, 0, none⟩)) (hy : a.eval y = .agg (bl s')) (hh : W.heap[g]? = some (.cells (bl s) 30 (0, 0))) (hs : s.length = 64) (hs' : s'.length = 64)
    (HB : Below B w0 W) (hB : B ≤ g) (h : ∀ W2, W2.heap[g]? = some (.cells (bl s') 30 (0, 0)) → Below B w0 W2 → (∀ j, j ≠ g → W2.heap[j]? = W.heap[j]?) → wpList Tryd.prog ops Q rest a W2) : wpList Tryd.prog ops Q (o :: rest) a W := by
  refine wpList_plain hgd fun K hK => ?_
  have hsz : (bl s').size = (bl s).size := by rw [bl_size, bl_size, hs, hs']
  have hrun := run_store_run (P := Tryd.prog) (o := 0) 30 (.agg (bl s')) (bl s').toList hh rfl (by rw [Array.length_toList]; exact size30 s' hs') (by rw [Array.length_toList]; omega) (bl_one s')
  unfold Oper.wp execOp
  simp only [ho, hx, hy, Sem.run_bind, Sem.run_pure, Result.andThen_ok, hrun]
  show K (a.put o.dst undef) _
  rw [hN]
  refine hK _ _ (h _ ?_ (below_setCells _ 0 W HB hB) fun j hj => setCells_other hj _ 0 W)
  have := setCells_all (g := g) (t := 30) (bl s').toList [] (bl s).toList W (by simpa using hh) (by simp only [Array.length_toList]; omega)
  simpa using this
/-- a whole list of truths is loaded -/
theorem wp_load30 {ops : Array Oper} {rest : List Oper} {o : Oper} {a : Act} {Q : Exit → Act → World → Prop} {W : World} (hgd : o.guard = none) (x : Operand) (ho : o.op = .load 30 x)
    (g : Nat) (s : List Bool) (hx : a.eval x = .pointer (some ⟨g, 0, none⟩)) (hh : W.heap[g]? = some (.cells (bl s) 30 (0, 0))) (hs : s.length = 64)
    (h : wpList Tryd.prog ops Q rest (a.put o.dst (.agg (bl s))) W) : wpList Tryd.prog ops Q (o :: rest) a W := by
  have hu : Tryd.prog.underlying 30 = some (.array 64 4) := by kernel_rfl
  refine wpList_load_mid hgd 30 x ho g 0 hx (bl s).toList _ (fun j v hj => ?_) hu rfl (by rw [Array.length_toList]; exact size30 s hs) (by simpa using h)
  rw [Nat.zero_add, blk_cell hh]
  simpa using hj
end Go.Proofs.YtlhheknhkjcffaaDoor.Tz
