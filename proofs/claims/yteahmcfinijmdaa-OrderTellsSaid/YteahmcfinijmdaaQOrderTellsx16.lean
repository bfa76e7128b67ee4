-- Written for this claim by a program of this session.
import Derived.Test.YteahmcfinijmdaaQOrderTellsx0
import Derived.Test.YteahmcfinijmdaaQOrderTellsx3
namespace Go.Proofs.Yteahmcfinijmdaa.QOrderTells
open Go.RowKit Go.Proofs.YteahmcfinijmdaaW.PrintWords Go.Proofs.YteahmcfinijmdaaW.PrintLast Go.Proofs.YteahmcfinijmdaaW.PrintMore
attribute [local go_sem] max2_int min2_int max_two min_two max_three min_three max_four min_four   -- for this text's walks alone
set_option linter.unusedVariables false
set_option linter.unusedSimpArgs false

-- NOT PRINTED: function 60 (slices_partitionOrdered_int)

-- NOT PRINTED: function 50 (slices_pdqsortOrdered_int)

-- NOT PRINTED: function 44 (slices_Sort_int_int)

-- NOT PRINTED: function 45 (slices_Compact_int_int)

/-! ### order_Cells: function 28 -/
open Go Go.Proofs.Yteahmcfinijmdaa.Imp
theorem putCells_take (ds : List Int) (cur : Array Value) (h : ds.length ≤ cur.size) : (Go.Sort.putCells (Value.int .i64) 0 ds.toArray cur).toList.take ds.length = ds.map (Value.int .i64) := by
  apply List.ext_getElem?
  intro j
  rw [List.getElem?_take, List.getElem?_map]
  by_cases hj : j < ds.length
  · rw [if_pos hj]
    unfold Go.Sort.putCells
    rw [Array.getElem?_toList, Array.getElem?_mapIdx, Array.getElem?_eq_getElem (by omega), List.getElem?_eq_getElem hj]
    simp only [Option.map_some]
    rw [if_pos ⟨Nat.zero_le _, by simpa using hj⟩]
    simp [hj]
  · rw [if_neg hj, List.getElem?_eq_none (by omega)]
    rfl
theorem putCells_size (ds : List Int) (cur : Array Value) : (Go.Sort.putCells (Value.int .i64) 0 ds.toArray cur).size = cur.size := by simp [Go.Sort.putCells]
theorem putRow_blk {w : World} {g : Nat} {cur : Array Value} (ds : List Int) (n : Nat) (h : w.heap[g]? = some (.cells cur 3 (0, 0))) : (Go.Sort.putRow (Value.int .i64) (Go.Sort.ahead w n) g 0 ds.toArray).heap[g]? = some (.cells (Go.Sort.putCells (Value.int .i64) 0 ds.toArray cur) 3 (0, 0)) := by
  show (w.heap.modify g _)[g]? = _
  rw [Array.getElem?_modify, if_pos rfl, h]
  rfl
theorem putRow_other {w : World} {g k : Nat} (ds : List Int) (n : Nat) (h : k ≠ g) : (Go.Sort.putRow (Value.int .i64) (Go.Sort.ahead w n) g 0 ds.toArray).heap[k]? = w.heap[k]? := by
  show (w.heap.modify g _)[k]? = _
  rw [Array.getElem?_modify, if_neg (fun e => h e.symm)]
theorem putRow_below {B g n : Nat} {w0 w : World} (ds : List Int) (h : Below B w0 w) (hg : B ≤ g) : Below B w0 (Go.Sort.putRow (Value.int .i64) (Go.Sort.ahead w n) g 0 ds.toArray) :=
  h.trans ⟨rfl, rfl, rfl, by rw [Go.Sort.size_putRow]; exact Nat.le_refl _, fun k hk => putRow_other ds n (by omega)⟩
theorem grow_below {B : Nat} {w0 w : World} (os : Array Obj) (h : Below B w0 w) (hB : B ≤ w.heap.size) : Below B w0 (Go.Sort.grow w os) :=
  h.trans ⟨rfl, rfl, rfl, by show w.heap.size ≤ (w.heap ++ os).size; simp, fun k hk => by show (w.heap ++ os)[k]? = _; rw [Array.getElem?_append_left (by omega)]⟩
theorem grow_blk {w : World} {g : Nat} {o : Obj} (os : Array Obj) (h : w.heap[g]? = some o) : (Go.Sort.grow w os).heap[g]? = some o := by
  show (w.heap ++ os)[g]? = _
  rw [Array.getElem?_append_left (lt_of_blk h), h]
theorem holds_cells {w : World} {g : Nat} {cur : Array Value} {ds : List Int} (h : w.heap[g]? = some (.cells cur 3 (0, 0))) (ht : cur.toList.take ds.length = ds.map (Value.int .i64)) : Go.Sort.Holds (Value.int .i64) w g 0 ds.toArray := by
  intro j hj
  have hj' : j < ds.length := by simpa using hj
  have e : cur[j]? = some (.int .i64 ds[j]) := by
    have := congrArg (fun l => l[j]?) ht
    simp only [List.getElem?_take, if_pos hj', List.getElem?_map, List.getElem?_eq_getElem hj', Option.map_some, Array.getElem?_toList] at this
    exact this
  rw [Nat.zero_add]
  refine ⟨?_, blk_frozen h j⟩
  rw [blk_cell h, e]
  simp [hj']
theorem sorted_below {B g n : Nat} {w0 w w2 : World} (ds : List Int) (os : Array Obj) (h : Below B w0 w) (hg : B ≤ g) (hB : B ≤ w.heap.size) (hw : w2 = Go.Sort.grow (Go.Sort.putRow (Value.int .i64) (Go.Sort.ahead w n) g 0 ds.toArray) os) : Below B w0 w2 := by
  subst hw
  refine grow_below os (putRow_below ds h hg) ?_
  rw [Go.Sort.size_putRow]
  exact hB
theorem packed_below {B g n : Nat} {w0 w w2 : World} (ds : List Int) (h : Below B w0 w) (hg : B ≤ g) (hw : w2 = Go.Sort.putRow (Value.int .i64) (Go.Sort.ahead w n) g 0 ds.toArray) : Below B w0 w2 := by
  subst hw
  exact putRow_below ds h hg
def cellsOf (l : List S33) : List Int := Lib.compact ((l.map (·.f2)).mergeSort fun x y => decide (x ≤ y))
def order_Cells.f (l0 : List S33) : Option (List Int) := if l0.length < 1000000000000 then some (cellsOf l0) else none
set_option maxHeartbeats 8000000 in
set_option maxRecDepth 100000 in
theorem order_Cells.calls (A0 : Option Addr) (c0 : Nat) (l0 : List S33) (r : List Int) (w : World) (hr0 : Kd.C k33 w A0 l0.length l0) (hc0 : l0.length ≤ c0) (h : order_Cells.f l0 = some r) :
    Calls Try.prog 28 #[.slice A0 l0.length c0] w fun e w' => ∃ v0_ : Value, e = .returned v0_ ∧ Kd.R (Kd.int .i64) 3 w' w.heap.size (fun _ => True) v0_ r ∧ Below w.heap.size w w' := by
  have hu33 := Try.underlying33
  have HR1 := Aside0.mk hr0
  have HC1 := Aside0.mk hc0
  clear hr0 hc0
  have hlen : l0.length < 1000000000000 := by
    by_cases k : l0.length < 1000000000000
    · exact k
    · unfold order_Cells.f at h; rw [if_neg k] at h; exact absurd h (by simp)
  unfold order_Cells.f at h
  rw [if_pos hlen] at h
  obtain rfl := Option.some.inj h
  clear h
  go_enter Try.func28, Try.ntmps28
  go_wp2
  go_loopg [3, 8] (l0.length + 1) (fun kq v3 v8 wc => ∃ (i : Nat), i ≤ l0.length ∧ l0.length < i + kq ∧ v8 = .int .i64 (i : Int) ∧ Aside0 (Kd.R (Kd.int .i64) 3 wc w.heap.size (fun _ => True) v3 ((l0.take i).map (·.f2))) ∧ Aside0 (Below w.heap.size w wc))
  case atStart => exact ⟨0, by omega, by omega, rfl, ⟨Kd.R_nil _ _ _ _ _⟩, ⟨Below.refl _ _⟩⟩
  case round =>
    obtain ⟨i, hi, hik, rfl, HO, HB⟩ := hrel
    cases gk with
    | zero => omega
    | succ g =>
    by_cases hlt : i < l0.length
    · have c1b : decide ((i : Int) < (l0.length : Int)) = true := decide_eq_true (by omega)
      have q1 : (0 : Int) ≤ (i : Int) := by omega
      have q2 : (i : Int) < (l0.length : Int) := by omega
      obtain ⟨ad, e101, hx0, hx1, hx2, hx3, hx4⟩ := at_T33 (Kd.C_below HR1.out HB.out) (i : Int) q1 q2
      cases e101
      simp only [Int.toNat_natCast] at hx0 hx1 hx2 hx3 hx4
      have hnx : (l0.take (i + 1)).map (·.f2) = (l0.take i).map (·.f2) ++ [(rd_T33 l0 (i : Int)).f2] := by
        rw [List.take_succ_eq_append_getElem hlt, List.map_append]
        simp [rd_T33, List.getD_eq_getElem?_getD, hlt]
      have HNX := Aside0.mk hnx
      clear hnx
      generalize rd_T33 l0 (i : Int) = a at *
      go_upto_region 5 with (fail)
      have hbx : Below wr.heap.size wr (wr.alloc (.cells #[.int .i64 a.f0, .int .i64 a.f1, .int .i64 a.f2, .int .u64 a.f3, .int .u64 a.f4] 33)) := below_alloc (Below.refl _ _) _
      have hO := Kd.R_below HO.out hbx
      have hB := HB.out.trans (hbx.mono (hb_size HB.out))
      have hc2 := (blk_cell (blk_new wr (.cells #[.int .i64 a.f0, .int .i64 a.f1, .int .i64 a.f2, .int .u64 a.f3, .int .u64 a.f4] 33)) 2).trans rfl
      clear hx0 hx1 hx2 hx3 hx4
      generalize wr.alloc (.cells #[.int .i64 a.f0, .int .i64 a.f1, .int .i64 a.f2, .int .u64 a.f3, .int .u64 a.f4] 33) = W at *
      obtain ⟨Au, cu, hue⟩ := Kd.R_slice hO
      subst hue
      have hol : ((l0.take i).map (·.f2)).length ≤ 1000000000000 := by simp; omega
      go_wp2_with (first | ((with_reducible refine gate_builtin (b := .append) (xs := #[.tmp 12, .tmp 15]) rfl ?_); at_builtin; refine Kd.R_append (Kd.int .i64) (w0 := w) w.heap.size rfl (.tmp 12) (.tmp 15) 37 3 (.int .i64 0) 8 rfl Try.underlying37 info3 rfl (by decide) (by decide) (.slice Au ((l0.take i).map (·.f2)).length cu) ((l0.take i).map (·.f2)) a.f2 [.int .i64 a.f2] (fun _ => True) (fun _ => False) rfl rfl rfl (fun _ h => h.elim) (fun _ _ => trivial) hO hB (hb_size hB) (by omega) ?_; intro v7 w7 ho7 hb7 hg7 hat7))
      go_roundg g
      case measure => omega
      case rel => exact ⟨i + 1, by omega, by omega, by first | rfl | rw [wrap_succ i (by omega)], ⟨by rw [HNX.out]; exact ho7⟩, ⟨hb7⟩⟩
    · have c1b : decide ((i : Int) < (l0.length : Int)) = false := decide_eq_false (by omega)
      obtain rfl : i = l0.length := by omega
      rw [List.take_length] at HO
      clear hik hlt hi
      by_cases hz : l0.length = 0
      · have hl : l0 = [] := List.eq_nil_of_length_eq_zero hz
        subst hl
        obtain ⟨Au, cu, hue⟩ := Kd.R_slice HO.out
        subst hue
        have hcn : cellsOf [] = [] := by unfold cellsOf; simp [Lib.compact, Lib.compactUpTo]
        go_wp2_with (first | (go_at_call 44; (with_reducible refine (Try.slices_Sort_int_none Au cu _).mono ?_); rintro e w2 ⟨rfl, rfl⟩) | (go_at_call 45; (with_reducible refine (Try.slices_Compact_int_empty Au cu _).mono ?_); rintro e w2 ⟨rfl, rfl⟩))
        go_ret
        exact ⟨_, rfl, by rw [hcn]; exact HO.out, HB.out⟩
      · obtain ⟨g1, cap, cur, hv, hbase, hblk, hn1, hn2, hcs, htk⟩ : ∃ g cap cur, u3 = .slice (some ⟨g, 0, none⟩) (l0.map (·.f2)).length cap ∧ w.heap.size ≤ g ∧ wr.heap[g]? = some (.cells cur 3 (0, 0)) ∧ (l0.map (·.f2)).length ≤ cap ∧ cap ≤ maxLen ∧ cur.size = cap * 1 ∧ cur.toList.take ((l0.map (·.f2)).length * 1) = (l0.map (·.f2)).map (Value.int .i64) := by
          obtain ⟨_, h2⟩ := Kd.own_of_R HO.out
          rcases h2 with ⟨_, h3⟩ | h3
          · exact absurd h3 (by simpa using hz)
          · exact h3
        subst hv
        generalize hzs : l0.map (·.f2) = zs at *
        have hzl : zs.length = l0.length := by rw [← hzs]; simp
        rw [Nat.mul_one] at htk hcs
        have hmx : cap ≤ 9223372036854775807 := hn2
        have hH := holds_cells hblk htk
        obtain ⟨ds, hds⟩ : ∃ ds, zs.mergeSort (fun x y => decide (x ≤ y)) = ds := ⟨_, rfl⟩
        have hdl : ds.length = zs.length := by rw [← hds, List.length_mergeSort]
        have hs1 := Try.slices_Sort_int g1 0 cap zs wr hH (lt_of_blk hblk) (by omega)
        rw [hds, hzl] at hs1
        have hle := Lib.compact_length_le ds
        obtain ⟨es, hes⟩ : ∃ es, Lib.compact ds ++ List.replicate (zs.length - (Lib.compact ds).length) 0 = es := ⟨_, rfl⟩
        have hel : es.length = zs.length := by rw [← hes]; simp; omega
        have hpre : es.take (Lib.compact ds).length = Lib.compact ds := by rw [← hes]; simp
        have hs2 : ∀ w2 : World, w2.heap[g1]? = some (.cells (Go.Sort.putCells (Value.int .i64) 0 ds.toArray cur) 3 (0, 0)) → Calls Try.prog 45 #[.slice (some ⟨g1, 0, none⟩) l0.length cap] w2 fun e w' => e = .returned (.slice (some ⟨g1, 0, none⟩) (Lib.compact ds).length cap) ∧ ∃ q, w' = Go.Sort.putRow (Value.int .i64) (Go.Sort.ahead w2 q) g1 0 es.toArray := fun w2 hb => by
          have h := Try.slices_Compact_int g1 0 cap ds w2 (holds_cells hb (putCells_take ds cur (by omega))) (by omega) (by omega)
          rw [hdl, hes, hzl] at h
          exact h
        have hcel := Aside0.mk (show cellsOf l0 = Lib.compact ds by unfold cellsOf; rw [hzs, hds])
        have HS1 := Aside0.mk hs1
        have HS2 := Aside0.mk hs2
        have HBK := Aside0.mk hblk
        clear hs1 hs2 hes hds hH htk hzs hblk
        go_wp2_with (first | (go_at_call 44; (with_reducible refine HS1.out.mono ?_); rintro e w2 ⟨rfl, n, os, hw2⟩; have hb2 : Aside0 (w2.heap[g1]? = some (.cells (Go.Sort.putCells (Value.int .i64) 0 ds.toArray cur) 3 (0, 0))) := ⟨by rw [hw2]; exact grow_blk os (putRow_blk ds n HBK.out)⟩; have hB2 := Aside0.mk (sorted_below ds os HB.out hbase (hb_size HB.out) hw2); clear hw2) | (go_at_call 45; (with_reducible refine (HS2.out w2 hb2.out).mono ?_); rintro e w3 ⟨rfl, q, hw3⟩; have hb3 : Aside0 (w3.heap[g1]? = some (.cells (Go.Sort.putCells (Value.int .i64) 0 es.toArray (Go.Sort.putCells (Value.int .i64) 0 ds.toArray cur)) 3 (0, 0))) := ⟨by rw [hw3]; exact putRow_blk es q hb2.out⟩; have hB3 := Aside0.mk (packed_below es hB2.out hbase hw3); clear hw3))
        go_ret
        rw [hcel.out]
        refine ⟨.slice (some ⟨g1, 0, none⟩) (Lib.compact ds).length cap, rfl, Kd.R_of_own ⟨by rw [encs_length, Nat.mul_one], .inr ⟨g1, cap, _, rfl, hbase, hb3.out, by omega, hn2, by rw [putCells_size, putCells_size]; omega, ?_⟩⟩ (fun _ _ => trivial), hB3.out⟩
        have ht := putCells_take es (Go.Sort.putCells (Value.int .i64) 0 ds.toArray cur) (by rw [putCells_size]; omega)
        have h2 := congrArg (List.take (Lib.compact ds).length) ht
        rw [List.take_take, Nat.min_eq_left (by omega), ← List.map_take, hpre] at h2
        rw [Nat.mul_one]
        exact h2

end Go.Proofs.Yteahmcfinijmdaa.QOrderTells
