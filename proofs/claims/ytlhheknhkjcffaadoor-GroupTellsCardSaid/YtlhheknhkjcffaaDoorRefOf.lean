/- The reference's Of answers the truths of some numbers, or that one may not be. No conditions but those that the theorems name. -/
import Derived.Test.YtlhheknhkjcffaaDoorRefIn
namespace Go.Proofs.YtlhheknhkjcffaaDoor.Tz
open Go Go.RowKit Go.Proofs.YtlhheknhkjcffaaDoor.PGroupParts Go.Proofs.YtlhheknhkjcffaaDoor.Pop Go.Proofs.YtlhheknhkjcffaaDoorW.PrintWords Go.Proofs.YtlhheknhkjcffaaDoorW.PrintLast Go.Proofs.YtlhheknhkjcffaaDoorW.PrintMore
attribute [local go_sem] max2_int min2_int max_two min_two max_three min_three max_four min_four
set_option linter.unusedVariables false
set_option linter.unusedSimpArgs false
def putAll : List Int → List Bool → Option (List Bool)
  | [], s => some s
  | i :: r, s => if inB i = true then putAll r (s.set i.toNat true) else none
def ofSet : Option (List Bool) → List Bool | some s => s | none => zer
theorem results9 (tmps : Array Value) (W : World) (g : Nat) (s : List Bool) (b : Bool) (hp : tmps.getD 2 undef = .pointer (some ⟨g, 0, none⟩)) (ht : tmps.getD 3 undef = .bool b) (hg : W.heap[g]? = some (.cells (bl s) 30 (0, 0))) (hs : s.length = 64) :
    (results Tryd.f9 tmps).run Tryd.prog W = .ok (.tuple #[.agg (bl s), .bool b]) W := by
  have hu : Tryd.prog.underlying 30 = some (.array 64 4) := by kernel_rfl
  rw [results_cell_tmp rfl, hp, ht]
  simp [asAddr, run_loadVar_row W g 30 30 (bl s) (0, 0) _ hg hu rfl (size30 s hs)]
set_option maxRecDepth 100000 in
set_option maxHeartbeats 2000000 in
theorem ofw (A0 : Option Addr) (c0 : Nat) (l : List Int) (w : World) (hr0 : Kd.C (Kd.int .i64) w A0 l.length l) (hc0 : l.length ≤ c0) (hl : l.length ≤ 1000) (r : List Bool) (b : Bool) (hrb : ofSet (putAll l zer) = r ∧ (putAll l zer).isSome = b) :
    Calls Tryd.prog 9 #[.slice A0 l.length c0] w fun e w' => e = .returned (.tuple #[.agg (bl r), .bool b]) ∧ Below w.heap.size w w' := by
  have HR0 := Aside0.mk hr0
  have HRB := Aside0.mk hrb
  clear hr0 hrb
  have hbn := blk_new w (.cells (bl zer) 30)
  have hbn2 := blk_new (w.alloc (.cells (bl zer) 30)) (.cells (bl zer) 30)
  rw [World.size_alloc] at hbn2
  have hbn1 : ((w.alloc (.cells (bl zer) 30)).alloc (.cells (bl zer) 30)).heap[w.heap.size]? = some (.cells (bl zer) 30 (0, 0)) := (Below.heap_alloc _ _ _ (by simp)).trans hbn
  have hb0 : Below w.heap.size w ((w.alloc (.cells (bl zer) 30)).alloc (.cells (bl zer) 30)) := ((Below.refl _ w).alloc (Nat.le_refl _) _).alloc (by simp) _
  go_enter Tryd.func9, Tryd.ntmps9
  go_wp2_with (first
    | (refine gate_ (.alloc 30) rfl ?_; refine wp_alloc30 rfl rfl ?_; try simp only [World.size_alloc])
    | (refine gate_ (.build 30 #[]) rfl ?_; refine wp_build30 rfl rfl ?_)
    | (refine gate_ (.store 30 (.tmp 4) (.tmp 6)) rfl ?_; refine wp_store30 rfl rfl _ _ rfl (w.heap.size + 1) zer zer rfl rfl hbn2 zer_len zer_len hb0 (by omega) ?_; intro W1 hh1 hb1 ho1))
  have hn1 := (ho1 w.heap.size (by omega)).trans hbn1
  go_loopg [5] 1001 (fun kq v5 wr => ∃ (i : Nat) (s : List Bool), i ≤ l.length ∧ l.length < i + kq ∧ s.length = 64 ∧ v5 = .int .i64 (i : Int) ∧ putAll (l.drop i) s = putAll l zer ∧ wr.heap[w.heap.size + 1]? = some (.cells (bl s) 30 (0, 0)) ∧ wr.heap[w.heap.size]? = some (.cells (bl zer) 30 (0, 0)) ∧ Below w.heap.size w wr)
  case atStart => exact ⟨0, zer, by omega, by omega, zer_len, rfl, by rw [List.drop_zero], hh1, hn1, hb1⟩
  case round =>
    obtain ⟨i, s, hi, hik, hs, rfl, hput, hbk, hbz, hbr⟩ := hrel
    have HP := Aside0.mk hput
    clear hput
    by_cases hlt : i < l.length
    · have c1 : decide ((i : Int) < (l.length : Int)) = true := decide_eq_true (by omega)
      obtain ⟨ad, ea, hxc⟩ := Kd.at_int HR0.out (i : Int) (by omega) (by omega)
      cases ea
      replace hxc := (hbr.cell (World.block_lt_of_cell? w _ hxc)).trans hxc
      have hdrop : l.drop i = rd l (i : Int) :: l.drop (i + 1) := by
        rw [List.drop_eq_getElem_cons hlt]
        simp [rd, List.getD_eq_getElem?_getD, hlt]
      rw [Int.toNat_natCast] at hxc
      have hpi := HP.out
      rw [hdrop, putAll] at hpi
      generalize rd l (i : Int) = x at *
      clear hdrop HP
      have hin := inw x
      have hc2 : (i : Int) < (l.length : Int) := by omega
      cases hb : inB x with
      | false =>
        rw [hb, if_neg (by simp)] at hpi
        obtain ⟨e1, e2⟩ := HRB.out
        rw [← hpi] at e1 e2
        obtain rfl : zer = r := e1
        obtain rfl : false = b := e2
        rw [hb] at hin
        clear HRB hpi hb
        go_wp2_with (first
          | (go_at_call 22; refine (hin _).mono ?_; rintro e w' ⟨rfl, hd⟩; have hz2 := (hd.below.block w.heap.size (by have := hbr.size; have := (Array.getElem?_eq_some_iff.1 hbz).1; omega)).trans hbz; have hb2 := hbr.trans (hd.below.mono hbr.size))
          | (refine gate_ (.build 30 #[]) rfl ?_; refine wp_build30 rfl rfl ?_)
          | (refine gate_ (.store 30 (.tmp 2) (.tmp 19)) rfl ?_; refine wp_store30 rfl rfl _ _ rfl w.heap.size zer zer rfl rfl hz2 zer_len zer_len hb2 (Nat.le_refl _) ?_; intro W2 hh2 hb3 ho2))
        refine bodyPost_ret (results9 _ _ w.heap.size zer false rfl rfl hh2 zer_len) rfl ?_
        exact ⟨rfl, hb3⟩
      | true =>
        rw [hb, if_pos rfl] at hpi
        rw [hb] at hin
        have hx : 0 ≤ x ∧ x < 64 := by simpa [inB] using hb
        obtain ⟨hx0, hx1⟩ := hx
        obtain ⟨y, rfl⟩ : ∃ y : Nat, x = y := ⟨x.toNat, by omega⟩
        rw [Int.toNat_natCast] at hpi
        have HPI := Aside0.mk hpi
        clear hpi hb
        cases gk with
        | zero => omega
        | succ g =>
        go_wp2_with (go_at_call 22; refine (hin _).mono ?_; rintro e w' ⟨rfl, hd⟩; have hlt2 := (Array.getElem?_eq_some_iff.1 hbk).1; have hk2 := (hd.below.block (w.heap.size + 1) hlt2).trans hbk; have hz2 := (hd.below.block w.heap.size (by omega)).trans hbz; have hb2 := hbr.trans (hd.below.mono hbr.size); have hxc2 := (hd.below.cell (World.block_lt_of_cell? _ _ hxc)).trans hxc; have hfz := blk_frozen hk2 y; have hcell : w'.cell? ⟨w.heap.size + 1, y, none⟩ = some (.bool (s.getD y false)) := (by rw [blk_cell hk2]; simp [bl, List.getD_eq_getElem?_getD, show y < s.length by omega]); have hpt := blk_put hk2 y (.bool true) (cs' := bl (s.set y true)) (by simp [bl, List.map_set]))
        go_roundg g
        case measure => omega
        case rel =>
          exact ⟨i + 1, s.set y true, by omega, by omega, by simp [hs], by simp [wrap64] <;> omega, HPI.out, hpt, (Below.heap_setCell _ ⟨w.heap.size + 1, y, none⟩ _ _ (by simp)).trans hz2, hb2.setCell (by simp) _⟩
    · have c1 : decide ((i : Int) < (l.length : Int)) = false := decide_eq_false (by omega)
      have e : putAll l zer = some s := by rw [← HP.out, List.drop_eq_nil_of_le (by omega)]; rfl
      obtain ⟨e1, e2⟩ := HRB.out
      rw [e] at e1 e2
      obtain rfl : s = r := e1
      obtain rfl : true = b := e2
      clear HRB HP e
      go_wp2_with (first
        | (refine gate_ (.load 30 (.tmp 4)) rfl ?_; refine wp_load30 rfl _ rfl (w.heap.size + 1) s rfl hbk hs ?_)
        | (refine gate_ (.store 30 (.tmp 2) (.tmp 25)) rfl ?_; refine wp_store30 rfl rfl _ _ rfl w.heap.size zer s rfl rfl hbz zer_len hs hbr (Nat.le_refl _) ?_; intro W2 hh2 hb2 ho2))
      refine bodyPost_ret (results9 _ _ w.heap.size s true rfl rfl hh2 hs) rfl ?_
      exact ⟨rfl, hb2⟩
end Go.Proofs.YtlhheknhkjcffaaDoor.Tz
