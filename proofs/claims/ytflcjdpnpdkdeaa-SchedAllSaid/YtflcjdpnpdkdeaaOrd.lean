/- sched.Orders answers all orders of some threads. No conditions but those that the theorems name. -/
import Derived.Test.YtflcjdpnpdkdeaaPSchedAllx1
import Derived.Test.YtflcjdpnpdkdeaaIvs
import Derived.Laws.EntriesVeiled
namespace Go.Proofs.Ytflcjdpnpdkdeaa.Ord
open Go Go.RowKit Go.Proofs.YtflcjdpnpdkdeaaW.PrintWords Go.Proofs.YtflcjdpnpdkdeaaW.PrintLast Go.Proofs.YtflcjdpnpdkdeaaW.PrintMore Go.Proofs.Ytflcjdpnpdkdeaa.Ivs
attribute [local go_sem] max2_int min2_int max_two min_two max_three min_three max_four min_four
set_option linter.unusedVariables false
set_option linter.unusedSimpArgs false
def hasB (l : List Int) (t : Int) : Bool := l.any fun x => x == t
set_option maxRecDepth 100000 in
set_option maxHeartbeats 2000000 in
theorem has28 (A0 : Option Addr) (cp : Nat) (l : List Int) (t : Int) (w : World) (hC : Kd.C (Kd.int .i64) w A0 l.length l) (hl : l.length ≤ 100) (b : Bool) (hb : hasB l t = b) :
    Calls Try.prog 28 #[.slice A0 l.length cp, .int .i64 t] w fun e w' => e = .returned (.bool b) ∧ Drawn0 w w' := by
  have HC := Aside0.mk hC
  have HB := Aside0.mk hb
  clear hC hb
  go_enter Try.func28, Try.ntmps28
  go_wp2
  go_loopg [6, 9] 101 (fun kq v6 v9 wr => ∃ i : Nat, i ≤ l.length ∧ l.length < i + kq ∧ v9 = .int .i64 (i : Int) ∧ (∀ j, j < i → ((rd l (j : Int)) == t) = false) ∧ Drawn0 w wr)
  case atStart => exact ⟨0, by omega, by omega, rfl, fun j h => by omega, Drawn0.refl w⟩
  case round =>
    obtain ⟨i, hi, hik, rfl, hno, hd⟩ := hrel
    have HNO := Aside0.mk hno
    clear hno
    by_cases hlt : i < l.length
    · have c1 : decide ((i : Int) < (l.length : Int)) = true := decide_eq_true (by omega)
      have hi2 : (i : Int) < (l.length : Int) := by omega
      obtain ⟨ad, ea, hxc⟩ := Kd.at_int HC.out (i : Int) (by omega) (by omega)
      cases ea
      replace hxc := (hd.below.cell (World.block_lt_of_cell? w _ hxc)).trans hxc
      rw [Int.toNat_natCast] at hxc
      obtain ⟨x, hx⟩ : ∃ x, rd l (i : Int) = x := ⟨_, rfl⟩
      rw [hx] at hxc
      cases hq : (x == t) with
      | true =>
        have e : hasB l t = true := by
          unfold hasB
          rw [List.any_eq_true]
          refine ⟨x, ?_, hq⟩
          rw [← hx]
          simp [rd, List.getD_eq_getElem?_getD, hlt]
        obtain rfl : true = b := by rw [← HB.out, e]
        clear HB e hx
        go_wp2
        go_ret
        exact ⟨rfl, hd⟩
      | false =>
        have HN2 : Aside0 (∀ j, j < i + 1 → ((rd l (j : Int)) == t) = false) := Aside0.mk fun j hj => by
          by_cases h : j = i
          · subst h; rw [hx]; exact hq
          · exact HNO.out j (by omega)
        clear hx
        cases gk with
        | zero => omega
        | succ g =>
          go_wp2
          go_roundg g
          case measure => omega
          case rel => exact ⟨i + 1, by omega, by omega, by simp, HN2.out, hd⟩
    · have c1 : decide ((i : Int) < (l.length : Int)) = false := decide_eq_false (by omega)
      have e : hasB l t = false := by
        unfold hasB
        rw [List.any_eq_false]
        intro x hx
        obtain ⟨j, hj, rfl⟩ := List.getElem_of_mem hx
        have := HNO.out j (by omega)
        simpa [rd, List.getD_eq_getElem?_getD, hj] using this
      obtain rfl : false = b := by rw [← HB.out, e]
      clear HB e
      go_wp2
      go_ret
      exact ⟨rfl, hd⟩
def okF (B : Nat) (k : Nat) : Prop := B + 3 ≤ k
def fv (B : Nat) : Value := .func (.func 27) #[] #[.pointer (some ⟨B, 0, none⟩), .pointer (some ⟨B + 1, 0, none⟩), .pointer (some ⟨B + 2, 0, none⟩)]
def St (B : Nat) (w0 : World) (n : Int) (w : World) (v : Value) (acc : List (List Int)) : Prop :=
  Below B w0 w ∧ B + 3 ≤ w.heap.size ∧ w.heap[B]? = some (.cells #[.int .i64 n] 3 (0, 0)) ∧ w.heap[B + 1]? = some (.cells #[v] 34 (0, 0)) ∧ w.heap[B + 2]? = some (.cells #[fv B] 49 (0, 0)) ∧ Kd.R (Kd.slice 3 (Kd.int .i64)) 24 w B (okF B) v acc
def Post27 (B : Nat) (w0 : World) (n : Int) (w : World) (v : Value) (acc : List (List Int)) (e : Ending) (w' : World) : Prop :=
  e = .returned (.tuple #[]) ∧ ∃ v', St B w0 n w' v' acc ∧ KeepBut w w' (B + 1) v.ownBlock ∧ (v'.ownBlock = v.ownBlock ∨ ∃ b, v'.ownBlock = some b ∧ w.heap.size ≤ b)
theorem info3 : (Try.prog.info? 3).map (fun i => (i.zero, i.size, i.bytes)) = some (some (.int .i64 0), 1, 8) := by kernel_rfl
theorem info24 : (Try.prog.info? 24).map (fun i => (i.zero, i.size, i.bytes)) = some (some (.slice none 0 0), 1, 24) := by kernel_rfl
theorem keepR {B : Nat} {w w' : World} {u v : Value} {P : List Int} {acc : List (List Int)} (h : (Kd.int .i64).R 3 w B (okF B) u P) (hv : Kd.R (Kd.slice 3 (Kd.int .i64)) 24 w B (okF B) v acc) (hk : KeepBut w w' (B + 1) v.ownBlock) : (Kd.int .i64).R 3 w' B (okF B) u P := by
  have h2 := Kd.R_apart' (v := v) h (Kd.R_typed hv) (e' := 24) (by simp [Kd.int, Kd.scalar])
  refine Kd.R_mono (Kd.R_step h2 (fun k hk' hlt => hk.2 k hlt ?_ hk'.2)) (fun k hk' => hk'.1)
  have : B + 3 ≤ k := hk'.1
  omega
set_option maxRecDepth 100000 in
set_option maxHeartbeats 4000000 in
theorem leaf27 (B : Nat) (w0 : World) (n : Nat) (A0 : Option Addr) (cp : Nat) (P : List Int) (w : World) (v : Value) (acc : List (List Int)) (hn : n ≤ 6) (hP : P.length = n) (hR : (Kd.int .i64).R 3 w B (okF B) (.slice A0 P.length cp) P) (hst : St B w0 (n : Int) w v acc) (hacc : acc.length ≤ 100000) :
    Calls Try.prog 27 #[.slice A0 P.length cp, .pointer (some ⟨B, 0, none⟩), .pointer (some ⟨B + 1, 0, none⟩), .pointer (some ⟨B + 2, 0, none⟩)] w (Post27 B w0 n w v (acc ++ [P])) := by
  obtain ⟨hb, hsz, hB0, hB1, hB2, hO⟩ := hst
  have hc0 : w.cell? ⟨B, 0, none⟩ = some (.int .i64 (n : Int)) := (blk_cell hB0 0).trans rfl
  have hlen : (P.length : Int) = (n : Int) := by omega
  have hq : ((P.length : Int) == (n : Int)) = true := by rw [beq_iff_eq]; exact hlen
  have HR := Aside0.mk hR
  have HO := Aside0.mk hO
  have HL := Aside0.mk hlen
  have HP := Aside0.mk hP
  clear hR hO hlen hP
  go_enter Try.func27, Try.ntmps27
  go_wp2
  have hlt := lt_of_blk hB1
  have hb01 : Below w.heap.size w w.drew := below_drew1 (Below.refl _ _)
  refine start_ (n := 7) (S := fun w' => w'.cell? ⟨B + 1, 0, none⟩ = some v) (ds := [6]) #[false, false, false, false, false, false, false] (by kernel_rfl) rfl rfl ((blk_cell (blk_kept hB1 hb01) 0).trans rfl) (fun hS => ?_)
  generalize w.drew = W1 at hb01 hS ⊢
  have hO1 := Kd.R_below HO.out hb01
  have hR1 := Kd.R_below HR.out hb01
  have hs1 := hb01.size
  have hB11 := blk_kept hB1 hb01
  have hlt1 := lt_of_blk hB11
  have hbw : Below B w0 W1 := hb.trans (hb01.mono (by omega))
  refine take_ (i := 0) (N := some 10) (v := ?_) (a' := ?_) #[true, false, false, false, false, false, false] rfl rfl (by kernel_rfl) (fun _ _ _ h => h) (Or.inl ⟨by rfl, ?_⟩) hS ?_ ?_
  rotate_left
  · intro w' hS'
    go_simp
    with_reducible rfl
  rotate_left
  · simp only [Act.put, List.setIfInBounds_toArray, List.set_cons_zero, List.set_cons_succ]
    rfl
  refine pure_ (i := 2) (N := some 12) (v := ?_) (a' := ?_) #[true, false, true, false, false, false, false] rfl rfl (by kernel_rfl) (fun _ _ _ h => h) (Or.inl ⟨by rfl, ?_⟩) ?_ ?_
  rotate_left
  · intro w'
    go_simp
    with_reducible rfl
  rotate_left
  · simp only [Act.put, List.setIfInBounds_toArray, List.set_cons_zero, List.set_cons_succ]
    rfl
  refine one_ (i := 1) (N := some 11) #[true, true, true, false, false, false, false] rfl rfl (by kernel_rfl) (by simp) (fun K hK => ?_)
  refine Kd.R_lit_step (Kd.int .i64) (w0 := W1) W1.heap.size 3 (by rfl) rfl (xs := ([] : List Int)) (inner := []) (ok := fun k => W1.heap.size ≤ k) (okp := fun k => W1.heap.size ≤ k) (by first | (go_simp; done) | (go_simp; rfl)) (Reps.none _ _) (fun _ h => h) (Nat.le_refl _) (Below.refl _ _) (Nat.le_refl _) (by simp) ?_
  intro v11 w2 ho11 hb2 hg2 hnew2
  refine hK.out _ _ ((blk_cell (blk_kept hB11 hb2) 0).trans rfl) (fun hS => ?_)
  clear hK K
  refine norm_ (a' := ?_) ?_ ?_
  rotate_left
  · show Act.put _ (some 11) _ = _
    simp only [Act.put, List.setIfInBounds_toArray, List.set_cons_zero, List.set_cons_succ]
    rfl
  refine one_ (i := 3) (N := some 13) #[true, true, true, true, false, false, false] rfl rfl (by kernel_rfl) (by simp) (fun K hK => ?_)
  refine Kd.R_append_rows_step (Kd.int .i64) (Rr := (Kd.int .i64).K w2) (w0 := W1) W1.heap.size (by rfl) (.tmp 11) (.tmp 12) 24 3 (.int .i64 0) 8 rfl Try.underlying24 info3 rfl (by decide) (by decide) v11 [] P A0 P.length cp (fun k => W1.heap.size ≤ k) (fun _ => False) rfl rfl ho11 (Kd.R_reads' (Kd.R_below hR1 hb2)).2.2 (fun _ _ h => h) (fun _ h => h.elim) (fun k hk => Nat.le_trans hb2.size hk) hb2 hb2.size (by have := HP.out; simp; omega) ?_
  intro v13 w3 ho13 hb3 hg3 hat3
  rw [List.nil_append] at ho13
  refine hK.out _ _ ((blk_cell (blk_kept hB11 hb3) 0).trans rfl) (fun hS => ?_)
  clear hK K
  refine norm_ (a' := ?_) ?_ ?_
  rotate_left
  · show Act.put _ (some 13) _ = _
    simp only [Act.put, List.setIfInBounds_toArray, List.set_cons_zero, List.set_cons_succ]
    rfl
  obtain ⟨A13, c13, rfl⟩ := Kd.R_slice ho13
  refine one_ (i := 4) (N := some 14) #[true, true, true, true, true, false, false] rfl rfl (by kernel_rfl) (by simp) (fun K hK => ?_)
  refine value_ (w1 := w3.alloc (.cells #[.slice A13 P.length c13] 24)) (v := .slice (some ⟨w3.heap.size, 0, none⟩) 1 1) (by rfl) rfl (by first | (go_simp; done) | (go_simp; rfl)) ?_
  have hb3a : Below W1.heap.size W1 (w3.alloc (.cells #[.slice A13 P.length c13] 24)) := hb3.alloc hb3.size _
  refine hK.out _ _ ((blk_cell (blk_kept hB11 hb3a) 0).trans rfl) (fun hS => ?_)
  clear hK K
  refine norm_ (a' := ?_) ?_ ?_
  rotate_left
  · show Act.put _ (some 14) _ = _
    simp only [Act.put, List.setIfInBounds_toArray, List.set_cons_zero, List.set_cons_succ]
    rfl
  have hO3 := Kd.R_below hO1 hb3
  have hs3 := hb3.size
  have hB13 := blk_kept hB11 hb3
  refine one_ (i := 5) (N := some 15) #[true, true, true, true, true, true, false] rfl rfl (by kernel_rfl) (by simp) (fun K hK => ?_)
  refine Kd.R_append_step (Kd.slice 3 (Kd.int .i64)) (w0 := w0) B (by rfl) (.tmp 10) (.tmp 14) 34 24 (.slice none 0 0) 24 rfl Try.underlying34 info24 rfl (by decide) (by decide) v acc P [.slice A13 P.length c13] (okF B) (fun k => W1.heap.size ≤ k) rfl rfl ⟨_, rfl, Kd.R_lower ho13 (by omega)⟩ (fun k hk => ⟨?_, fun e => ?_⟩) (fun k hk => ?_) hO3 (hbw.trans (hb3.mono (by omega))) (by omega) (by omega) ?_
  · show B + 3 ≤ k
    omega
  · have := Kd.R_lt hO1 k e.symm
    omega
  · show B + 3 ≤ k
    omega
  intro v15 w4 ho15 hb4 hg4 hat4
  have hne : some (B + 1) ≠ v.ownBlock := fun e => by
    have : B + 3 ≤ B + 1 := hO1.1 (B + 1) e.symm
    omega
  have hB14 : w4.heap[B + 1]? = some (.cells #[v] 34 (0, 0)) := (hg4.block (B + 1) (by omega) hne).trans hB13
  refine hK.out _ _ ((blk_cell hB14 0).trans rfl) (fun hS => ?_)
  clear hK K
  refine norm_ (a' := ?_) ?_ ?_
  rotate_left
  · show Act.put _ (some 15) _ = _
    simp only [Act.put, List.setIfInBounds_toArray, List.set_cons_zero, List.set_cons_succ]
    rfl
  obtain ⟨A15, c15, rfl⟩ := Kd.R_slice ho15
  refine last_ (i := 6) (N := none) #[true, true, true, true, true, true, true] rfl rfl (by kernel_rfl) (by simp) (fun K hK => ?_)
  have hfz := blk_frozen hB14 0
  refine skip_ (w1 := w4.setCell ⟨B + 1, 0, none⟩ (.slice A15 (acc ++ [P]).length c15)) (by rfl) rfl (by first | (go_simp; done) | (go_simp; rfl)) ?_
  refine hK.out _ _ ?_
  clear hK K
  refine done_ (by kernel_rfl) ?_
  go_wp2
  have hs4 := hg4.size
  have hw : ∀ i, i < w.heap.size → i ≠ B + 1 → some i ≠ v.ownBlock → (w4.setCell ⟨B + 1, 0, none⟩ (.slice A15 (acc ++ [P]).length c15)).heap[i]? = w.heap[i]? := fun i hi h1 h2 => by
    rw [Below.heap_setCell w4 ⟨B + 1, 0, none⟩ _ i h1, hg4.block i (by omega) h2, hb3.block i (by omega), hb01.block i hi]
  have hno : ∀ i, i < B + 3 → some i ≠ v.ownBlock := fun i hi e => by
    have : B + 3 ≤ i := hO1.1 i e.symm
    omega
  refine bodyPost_ret (v := .tuple #[]) (by simp [results, Try.results27, go_sem]) rfl ⟨rfl, .slice A15 (acc ++ [P]).length c15, ⟨hb4.setCell (by simp) _, ?_, (hw B (by omega) (by omega) (hno B (by omega))).trans hB0, blk_put hB14 0 _ rfl, (hw (B + 2) (by omega) (by omega) (hno _ (by omega))).trans hB2, Kd.R_far ho15 (fun k hk => ?_) _⟩, ⟨?_, hw⟩, ?_⟩
  · rw [World.size_setCell]
    omega
  · have : B + 3 ≤ k := hk
    show k ≠ B + 1
    omega
  · rw [World.size_setCell]
    omega
  · rcases hat4 with h | ⟨b, h1, h2⟩
    · exact .inl h
    · exact .inr ⟨b, h1, by omega⟩
def comps (n : Nat) : Nat → List Int → List (List Int)
  | 0, P => [P]
  | d + 1, P => (List.range n).flatMap fun t : Nat => if hasB P (t : Int) = true then [] else comps n d (P ++ [(t : Int)])
def cup (n d : Nat) (P : List Int) (t : Nat) : List (List Int) := (List.range t).flatMap fun t : Nat => if hasB P (t : Int) = true then [] else comps n d (P ++ [(t : Int)])
theorem cup_zero (n d : Nat) (P : List Int) : cup n d P 0 = [] := rfl
theorem cup_all (n d : Nat) (P : List Int) : cup n d P n = comps n (d + 1) P := rfl
theorem cup_succ (n d : Nat) (P : List Int) (t : Nat) : cup n d P (t + 1) = cup n d P t ++ (if hasB P (t : Int) = true then [] else comps n d (P ++ [(t : Int)])) := by
  unfold cup
  rw [List.range_succ, List.flatMap_append]
  simp
theorem comps_len (n : Nat) : ∀ (d : Nat) (P : List Int), (comps n d P).length ≤ n ^ d
  | 0, P => by simp [comps]
  | d + 1, P => by
    have h : ∀ t, (cup n d P t).length ≤ t * n ^ d := by
      intro t
      induction t with
      | zero => simp [cup_zero]
      | succ t ih =>
        rw [cup_succ, List.length_append, Nat.succ_mul]
        split
        · simp; omega
        · have := comps_len n d (P ++ [(t : Int)])
          omega
    have := h n
    rw [cup_all] at this
    rw [Nat.pow_succ, Nat.mul_comm]
    exact this
theorem cup_len (n d : Nat) (P : List Int) (t : Nat) : (cup n d P t).length ≤ t * n ^ d := by
  induction t with
  | zero => simp [cup_zero]
  | succ t ih =>
    rw [cup_succ, List.length_append, Nat.succ_mul]
    split
    · simp; omega
    · have := comps_len n d (P ++ [(t : Int)])
      omega
theorem St.next {B : Nat} {w0 : World} {n : Int} {w w' : World} {v : Value} {acc : List (List Int)} (h : St B w0 n w v acc) (hb : Below w.heap.size w w') : St B w0 n w' v acc := by
  obtain ⟨h1, h2, h3, h4, h5, h6⟩ := h
  exact ⟨h1.trans (hb.mono (by omega)), by have := hb.size; omega, blk_kept h3 hb, blk_kept h4 hb, blk_kept h5 hb, Kd.R_below h6 hb⟩
theorem keep_trans {w w1 w2 : World} {g : Nat} {r1 r2 : Option Nat} (h : KeepBut w w1 g r1) (h2 : KeepBut w1 w2 g r2) (hat : r2 = r1 ∨ ∃ b, r2 = some b ∧ w.heap.size ≤ b) : KeepBut w w2 g r1 := by
  refine ⟨Nat.le_trans h.1 h2.1, fun i hi hg hr => ?_⟩
  have h3 := h.1
  rw [h2.2 i (by omega) hg ?_, h.2 i hi hg hr]
  rcases hat with rfl | ⟨b, rfl, hb⟩
  · exact hr
  · intro e
    have := Option.some.inj e
    omega
theorem C_box {w : World} {g : Nat} {t : Int} (h : w.heap[g]? = some (.cells #[.int .i64 t] 3 (0, 0))) : Kd.C (Kd.int .i64) w (some ⟨g, 0, none⟩) 1 [t] := by
  refine ⟨rfl, by omega, fun _ => ⟨_, rfl, fun j p hj => ?_⟩⟩
  match j, hj with
  | 0, hj =>
    obtain rfl : t = p := by simpa using hj
    refine ⟨[.int .i64 t], rfl, rfl, fun i u hu => ?_⟩
    match i, hu with
    | 0, hu =>
      obtain rfl : Value.int .i64 t = u := by simpa using hu
      exact (blk_cell h 0).trans rfl
    | i + 1, hu => simp at hu
  | j + 1, hj => simp at hj
theorem runF {oi : Oper} {a : Act} {w : World} {f : FuncId} {x : Operand} {xs : Array Operand} {ts : Array TypeId} {vs caps : Array Value} (hop : oi.op = .call { callee := .value x, args := xs, argTypes := ts }) (hx : a.eval x = .func (.func f) #[] caps) (hargs : xs.map a.eval = vs)
    (he : (callFunc f (vs ++ caps)).run Try.prog w = .ok (.enter f (vs ++ caps)) w) : (execOp a.eval oi).run Try.prog w = .ok (.enter f (vs ++ caps)) w := by
  unfold execOp
  simp [hop, resolve, hx, Deferred.ofValue, invoke, hargs, he]
def F6 (W1 : World) (t : Nat) (P : List Int) (s : Value × Value × Nat) (w' : World) : Prop :=
  Below W1.heap.size W1 w' ∧ (Kd.int .i64).R 3 w' W1.heap.size (fun k => W1.heap.size ≤ k) s.2.1 P ∧ w'.heap[s.2.2]? = some (.cells #[.int .i64 (t : Int)] 3 (0, 0))
set_option maxRecDepth 100000 in
set_option maxHeartbeats 8000000 in
theorem step27 (B : Nat) (w0 : World) (n d : Nat) (hn : n ≤ 6) (A0 : Option Addr) (cp : Nat) (P : List Int) (w : World) (v : Value) (acc : List (List Int)) (hP : P.length + (d + 1) = n) (hR : (Kd.int .i64).R 3 w B (okF B) (.slice A0 P.length cp) P) (hst : St B w0 (n : Int) w v acc) (hacc : acc.length + n ^ (d + 1) ≤ 100000)
    (ih : ∀ (A1 : Option Addr) (c1 : Nat) (Q : List Int) (w1 : World) (v1 : Value) (acc1 : List (List Int)), Q.length + d = n → (Kd.int .i64).R 3 w1 B (okF B) (.slice A1 Q.length c1) Q → St B w0 (n : Int) w1 v1 acc1 → acc1.length + n ^ d ≤ 100000 →
      Calls Try.prog 27 #[.slice A1 Q.length c1, .pointer (some ⟨B, 0, none⟩), .pointer (some ⟨B + 1, 0, none⟩), .pointer (some ⟨B + 2, 0, none⟩)] w1 (Post27 B w0 n w1 v1 (acc1 ++ comps n d Q))) :
    Calls Try.prog 27 #[.slice A0 P.length cp, .pointer (some ⟨B, 0, none⟩), .pointer (some ⟨B + 1, 0, none⟩), .pointer (some ⟨B + 2, 0, none⟩)] w (Post27 B w0 n w v (acc ++ comps n (d + 1) P)) := by
  have hst0 := hst
  obtain ⟨hb, hsz, hB0, hB1, hB2, hO⟩ := hst
  have hc0 : w.cell? ⟨B, 0, none⟩ = some (.int .i64 (n : Int)) := (blk_cell hB0 0).trans rfl
  have hq : ((P.length : Int) == (n : Int)) = false := by rw [beq_eq_false_iff_ne]; omega
  have HR := Aside0.mk hR
  have HO := Aside0.mk hO
  have HP := Aside0.mk hP
  have HA := Aside0.mk hacc
  have IH := Aside0.mk ih
  have HST := Aside0.mk hst0
  clear hR hO hP hacc ih hst0
  go_enter Try.func27, Try.ntmps27
  go_wp2
  go_loopg [17] (n + 1) (fun kq v17 wr => ∃ (t : Nat) (vc : Value), t ≤ n ∧ n < t + kq ∧ v17 = .int .i64 (t : Int) ∧ St B w0 (n : Int) wr vc (acc ++ cup n d P t) ∧ KeepBut w wr (B + 1) v.ownBlock ∧ (vc.ownBlock = v.ownBlock ∨ ∃ b, vc.ownBlock = some b ∧ w.heap.size ≤ b))
  case atStart => exact ⟨0, v, by omega, by omega, rfl, by rw [cup_zero, List.append_nil]; exact HST.out, KeepBut.refl _ _ _, .inl rfl⟩
  case round =>
    obtain ⟨t, vc, ht, htk, rfl, hsr, hkr, hat⟩ := hrel
    have HSR := Aside0.mk hsr
    have HKR := Aside0.mk hkr
    have HAT := Aside0.mk hat
    clear hsr hkr hat
    by_cases hlt : t < n
    · have c1 : decide ((t : Int) < (n : Int)) = true := decide_eq_true (by omega)
      have hRr := keepR HR.out HO.out HKR.out
      have hhas := fun W' h => has28 A0 cp P (t : Int) W' h (by have := HP.out; omega) _ rfl
      cases hh : hasB P (t : Int) with
      | true =>
        rw [hh] at hhas
        have hCr := (Kd.R_reads' hRr).2.2
        have hex := fun W' h => hhas W' h
        have HHAS := Aside0.mk hhas
        have HCR := Aside0.mk hCr
        have HRR := Aside0.mk hRr
        have HH := Aside0.mk hh
        clear hhas hCr hex hRr hh
        cases gk with
        | zero => omega
        | succ g =>
        go_wp2_with (go_at_call 28; refine (HHAS.out _ HCR.out).mono ?_; rintro e w2 ⟨rfl, hd⟩)
        go_roundg g
        case measure => omega
        case rel =>
          refine ⟨t + 1, vc, by omega, by omega, by simp, ?_, keep_trans HKR.out (KeepBut.of_below hd.below _ v.ownBlock) (.inl rfl), HAT.out⟩
          · rw [cup_succ, if_pos HH.out, List.append_nil]
            exact HSR.out.next hd.below
      | false =>
        rw [hh] at hhas
        have HHAS := Aside0.mk hhas
        have HCR := Aside0.mk (Kd.R_reads' hRr).2.2
        have HRR := Aside0.mk hRr
        have HH := Aside0.mk hh
        clear hhas hRr hh
        cases gk with
        | zero => omega
        | succ g =>
        go_wp2_with (go_at_call 28; refine (HHAS.out _ HCR.out).mono ?_; rintro e w2 ⟨rfl, hd⟩)
        have hd1 : Below wr.heap.size wr w2.drew := below_drew1 hd.below
        refine start_ (n := 8) (S := fun w' => w'.cell? ⟨B + 2, 0, none⟩ = some (fv B)) (ds := []) #[false, false, false, false, false, false, false, false] (by kernel_rfl) rfl rfl ((blk_cell (HSR.out.next hd1).2.2.2.2.1 0).trans rfl) (fun hS => ?_)
        generalize w2.drew = W1 at hd1 hS ⊢
        have hs1 := HSR.out.next hd1
        have hk1 : KeepBut w W1 (B + 1) v.ownBlock := keep_trans HKR.out (KeepBut.of_below hd1 _ v.ownBlock) (.inl rfl)
        have hR1 := Kd.R_below HRR.out hd1
        have hB21 := hs1.2.2.2.2.1
        have hlB := hs1.2.1
        have HS1 := Aside0.mk hs1
        have HK1 := Aside0.mk hk1
        clear hs1 hk1
        refine take_ (i := 0) (N := some 24) (v := ?_) (a' := ?_) #[true, false, false, false, false, false, false, false] rfl rfl (by kernel_rfl) (fun _ _ _ h => h) (Or.inl ⟨by rfl, ?_⟩) hS ?_ ?_
        rotate_left
        · intro w' hS'
          go_simp
          with_reducible rfl
        rotate_left
        · simp only [Act.put, List.setIfInBounds_toArray, List.set_cons_zero, List.set_cons_succ]
          rfl
        refine pure_ (i := 2) (N := some 26) (v := ?_) (a' := ?_) #[true, false, true, false, false, false, false, false] rfl rfl (by kernel_rfl) (fun _ _ _ h => h) (Or.inl ⟨by rfl, ?_⟩) ?_ ?_
        rotate_left
        · intro w'
          go_simp
          with_reducible rfl
        rotate_left
        · simp only [Act.put, List.setIfInBounds_toArray, List.set_cons_zero, List.set_cons_succ]
          rfl
        refine pure_ (i := 4) (N := some 28) (v := ?_) (a' := ?_) #[true, false, true, false, true, false, false, false] rfl rfl (by kernel_rfl) (fun _ _ _ h => h) (Or.inl ⟨by rfl, ?_⟩) ?_ ?_
        rotate_left
        · intro w'
          go_simp
          with_reducible rfl
        rotate_left
        · simp only [Act.put, List.setIfInBounds_toArray, List.set_cons_zero, List.set_cons_succ]
          rfl
        refine join_ (σ := Value × Value × Nat) 2 #[true, true, true, true, true, true, false, false] (fun s => [(25, s.1), (27, s.2.1), (29, .slice (some ⟨s.2.2, 0, none⟩) 1 1)]) (F6 W1 t P) ?_ ?_
        rotate_left
        · intro hcont
          refine two_ (i := 1) (j := 5) (Ni := some 25) (Nj := some 29) #[true, true, true, false, true, false, false, false] #[true, false, true, false, true, true, false, false] rfl rfl rfl rfl (by kernel_rfl) (by simp) (by simp) (fun K hK => ?_) (fun K hK => ?_)
          · skip
            refine Kd.R_lit_step (Kd.int .i64) (w0 := W1) W1.heap.size 3 (by rfl) rfl (xs := ([] : List Int)) (inner := []) (ok := fun k => W1.heap.size ≤ k) (okp := fun k => W1.heap.size ≤ k) (by first | (go_simp; done) | (go_simp; rfl)) (Reps.none _ _) (fun _ h => h) (Below.refl W1.heap.size W1).size (Below.refl W1.heap.size W1) (Below.refl W1.heap.size W1).size (by simp) ?_
            intro v11 w2 ho11 hb2 hg2 hnew2
            refine hK.out _ _ ((blk_cell (blk_kept hB21 hb2) 0).trans rfl) (fun hS => ?_)
            clear hK K
            refine norm_ (a' := ?_) ?_ ?_
            rotate_left
            · show Act.put _ (some 25) _ = _
              simp only [Act.put, List.setIfInBounds_toArray, List.set_cons_zero, List.set_cons_succ]
              rfl
            refine two_ (i := 3) (j := 5) (Ni := some 27) (Nj := some 29) #[true, true, true, true, true, false, false, false] #[true, true, true, false, true, true, false, false] rfl rfl rfl rfl (by kernel_rfl) (by simp) (by simp) (fun K hK => ?_) (fun K hK => ?_)
            · skip
              refine Kd.R_append_rows_step (Kd.int .i64) (Rr := (Kd.int .i64).K w2) (w0 := W1) W1.heap.size (by rfl) (.tmp 25) (.tmp 26) 24 3 (.int .i64 0) 8 rfl Try.underlying24 info3 rfl (by decide) (by decide) v11 [] P A0 P.length cp (fun k => W1.heap.size ≤ k) (fun _ => False) rfl rfl ho11 (Kd.R_reads' (Kd.R_below hR1 hb2)).2.2 (fun _ _ h => h) (fun _ h => h.elim) (fun k hk => Nat.le_trans hb2.size hk) hb2 hb2.size (by have := HP.out; simp; omega) ?_
              intro v13 w3 ho13 hb3 hg3 hat3
              rw [List.nil_append] at ho13
              refine hK.out _ _ ((blk_cell (blk_kept hB21 hb3) 0).trans rfl) (fun hS => ?_)
              clear hK K
              refine norm_ (a' := ?_) ?_ ?_
              rotate_left
              · show Act.put _ (some 27) _ = _
                simp only [Act.put, List.setIfInBounds_toArray, List.set_cons_zero, List.set_cons_succ]
                rfl
              refine one_ (i := 5) (N := some 29) #[true, true, true, true, true, true, false, false] rfl rfl (by kernel_rfl) (by simp) (fun K hK => ?_)
              have hx4 : (w3.alloc (.cells #[.int .i64 (t : Int)] 3)).heap[w3.heap.size]? = some (.cells #[.int .i64 (t : Int)] 3 (0, 0)) := blk_new w3 (.cells #[.int .i64 (t : Int)] 3)
              have hb4 : Below W1.heap.size W1 (w3.alloc (.cells #[.int .i64 (t : Int)] 3)) := hb3.alloc hb3.size _
              refine value_ (w1 := w3.alloc (.cells #[.int .i64 (t : Int)] 3)) (v := .slice (some ⟨w3.heap.size, 0, none⟩) 1 1) (by rfl) rfl (by first | (go_simp; done) | (go_simp; rfl)) ?_
              refine hK.out _ _ ((blk_cell (blk_kept hB21 hb4) 0).trans rfl) (fun hS => ?_)
              clear hK K
              exact hcont (v11, v13, w3.heap.size) _ ⟨hb4, Kd.R_alloc ho13 _, hx4⟩
            · skip
              have hx3 : (w2.alloc (.cells #[.int .i64 (t : Int)] 3)).heap[w2.heap.size]? = some (.cells #[.int .i64 (t : Int)] 3 (0, 0)) := blk_new w2 (.cells #[.int .i64 (t : Int)] 3)
              have hb3 : Below W1.heap.size W1 (w2.alloc (.cells #[.int .i64 (t : Int)] 3)) := hb2.alloc hb2.size _
              refine value_ (w1 := w2.alloc (.cells #[.int .i64 (t : Int)] 3)) (v := .slice (some ⟨w2.heap.size, 0, none⟩) 1 1) (by rfl) rfl (by first | (go_simp; done) | (go_simp; rfl)) ?_
              refine hK.out _ _ ((blk_cell (blk_kept hB21 hb3) 0).trans rfl) (fun hS => ?_)
              clear hK K
              refine norm_ (a' := ?_) ?_ ?_
              rotate_left
              · simp only [Act.put, List.setIfInBounds_toArray, List.set_cons_zero, List.set_cons_succ]
                rfl
              refine one_ (i := 3) (N := some 27) #[true, true, true, true, true, true, false, false] rfl rfl (by kernel_rfl) (by simp) (fun K hK => ?_)
              refine Kd.R_append_rows_step (Kd.int .i64) (Rr := (Kd.int .i64).K (w2.alloc (.cells #[.int .i64 (t : Int)] 3))) (w0 := W1) W1.heap.size (by rfl) (.tmp 25) (.tmp 26) 24 3 (.int .i64 0) 8 rfl Try.underlying24 info3 rfl (by decide) (by decide) v11 [] P A0 P.length cp (fun k => W1.heap.size ≤ k) (fun _ => False) rfl rfl (Kd.R_alloc ho11 _) (Kd.R_reads' (Kd.R_below hR1 hb3)).2.2 (fun _ _ h => h) (fun _ h => h.elim) (fun k hk => Nat.le_trans hb3.size hk) hb3 hb3.size (by have := HP.out; simp; omega) ?_
              intro v13 w4 ho13 hb4 hg4 hat4
              rw [List.nil_append] at ho13
              refine hK.out _ _ ((blk_cell (blk_kept hB21 hb4) 0).trans rfl) (fun hS => ?_)
              clear hK K
              exact hcont (v11, v13, w2.heap.size) _ ⟨hb4, ho13, (hg4.block w2.heap.size (by simp) (fun e => by have := Kd.R_lt ho11 _ e.symm; omega)).trans hx3⟩
          · skip
            have hx2 : (W1.alloc (.cells #[.int .i64 (t : Int)] 3)).heap[W1.heap.size]? = some (.cells #[.int .i64 (t : Int)] 3 (0, 0)) := blk_new W1 (.cells #[.int .i64 (t : Int)] 3)
            have hb2 : Below W1.heap.size W1 (W1.alloc (.cells #[.int .i64 (t : Int)] 3)) := (Below.refl W1.heap.size W1).alloc (Below.refl W1.heap.size W1).size _
            refine value_ (w1 := W1.alloc (.cells #[.int .i64 (t : Int)] 3)) (v := .slice (some ⟨W1.heap.size, 0, none⟩) 1 1) (by rfl) rfl (by first | (go_simp; done) | (go_simp; rfl)) ?_
            refine hK.out _ _ ((blk_cell (blk_kept hB21 hb2) 0).trans rfl) (fun hS => ?_)
            clear hK K
            refine norm_ (a' := ?_) ?_ ?_
            rotate_left
            · simp only [Act.put, List.setIfInBounds_toArray, List.set_cons_zero, List.set_cons_succ]
              rfl
            refine one_ (i := 1) (N := some 25) #[true, true, true, false, true, true, false, false] rfl rfl (by kernel_rfl) (by simp) (fun K hK => ?_)
            refine Kd.R_lit_step (Kd.int .i64) (w0 := W1) W1.heap.size 3 (by rfl) rfl (xs := ([] : List Int)) (inner := []) (ok := fun k => W1.heap.size ≤ k) (okp := fun k => W1.heap.size ≤ k) (by first | (go_simp; done) | (go_simp; rfl)) (Reps.none _ _) (fun _ h => h) hb2.size hb2 hb2.size (by simp) ?_
            intro v11 w3 ho11 hb3 hg3 hnew3
            refine hK.out _ _ ((blk_cell (blk_kept hB21 hb3) 0).trans rfl) (fun hS => ?_)
            clear hK K
            refine norm_ (a' := ?_) ?_ ?_
            rotate_left
            · show Act.put _ (some 25) _ = _
              simp only [Act.put, List.setIfInBounds_toArray, List.set_cons_zero, List.set_cons_succ]
              rfl
            refine one_ (i := 3) (N := some 27) #[true, true, true, true, true, true, false, false] rfl rfl (by kernel_rfl) (by simp) (fun K hK => ?_)
            refine Kd.R_append_rows_step (Kd.int .i64) (Rr := (Kd.int .i64).K w3) (w0 := W1) W1.heap.size (by rfl) (.tmp 25) (.tmp 26) 24 3 (.int .i64 0) 8 rfl Try.underlying24 info3 rfl (by decide) (by decide) v11 [] P A0 P.length cp (fun k => W1.heap.size ≤ k) (fun _ => False) rfl rfl ho11 (Kd.R_reads' (Kd.R_below hR1 hb3)).2.2 (fun _ _ h => h) (fun _ h => h.elim) (fun k hk => Nat.le_trans hb3.size hk) hb3 hb3.size (by have := HP.out; simp; omega) ?_
            intro v13 w4 ho13 hb4 hg4 hat4
            rw [List.nil_append] at ho13
            refine hK.out _ _ ((blk_cell (blk_kept hB21 hb4) 0).trans rfl) (fun hS => ?_)
            clear hK K
            have hx3 := (hg3.block W1.heap.size (by simp) (by simp)).trans hx2
            obtain ⟨q, hq1, hq2⟩ := hnew3
            exact hcont (v11, v13, W1.heap.size) _ ⟨hb4, ho13, (hg4.block W1.heap.size (lt_of_blk hx3) (fun e => by rw [hq1] at e; have := Option.some.inj e; simp at hq2; omega)).trans hx3⟩
        · rintro ⟨v11, v13, gb⟩ w3 ⟨hb3, ho13, hx3⟩
          refine norm_ (a' := ?_) ?_ ?_
          rotate_left
          · simp only [putAll, Act.put, List.setIfInBounds_toArray, List.set_cons_zero, List.set_cons_succ]
            rfl
          refine one_ (i := 6) (N := some 30) #[true, true, true, true, true, true, true, false] rfl rfl (by kernel_rfl) (by simp) (fun K hK => ?_)
          refine Kd.R_append_rows_step (Kd.int .i64) (Rr := (Kd.int .i64).K w3) (w0 := W1) W1.heap.size (by rfl) (.tmp 27) (.tmp 29) 24 3 (.int .i64 0) 8 rfl Try.underlying24 info3 rfl (by decide) (by decide) v13 P [(t : Int)] (some ⟨gb, 0, none⟩) 1 1 (fun k => W1.heap.size ≤ k) (fun _ => False) rfl rfl ho13 (C_box hx3) (fun _ _ h => h) (fun _ h => h.elim) (fun k hk => Nat.le_trans hb3.size hk) hb3 hb3.size (by have := HP.out; omega) ?_
          intro v30 w4 ho30 hb4 hg4 hat4
          refine hK.out _ _ ((blk_cell (blk_kept hB21 hb4) 0).trans rfl) (fun hS => ?_)
          clear hK K
          refine norm_ (a' := ?_) ?_ ?_
          rotate_left
          · show Act.put _ (some 30) _ = _
            simp only [Act.put, List.setIfInBounds_toArray, List.set_cons_zero, List.set_cons_succ]
            rfl
          obtain ⟨A30, c30, rfl⟩ := Kd.R_slice ho30
          have hs4 := HS1.out.next hb4
          have hk4 : KeepBut w w4 (B + 1) v.ownBlock := keep_trans HK1.out (KeepBut.of_below hb4 _ v.ownBlock) (.inl rfl)
          have hbound : (acc ++ cup n d P t).length + n ^ d ≤ 100000 := by
            have h1 := cup_len n d P t
            have h2 := HA.out
            have h3 := Nat.mul_le_mul_right (n ^ d) (show t + 1 ≤ n by omega)
            rw [Nat.succ_mul] at h3
            rw [Nat.pow_succ, Nat.mul_comm] at h2
            rw [List.length_append]
            omega
          refine one_ (i := 7) (N := some 31) #[true, true, true, true, true, true, true, true] rfl rfl (by kernel_rfl) (by simp) (fun K hK => ?_)
          refine call_ 27 #[.slice A30 (P ++ [(t : Int)]).length c30, .pointer (some ⟨B, 0, none⟩), .pointer (some ⟨B + 1, 0, none⟩), .pointer (some ⟨B + 2, 0, none⟩)] (by rfl) rfl ?_ ?_
          · exact runF (x := .tmp 24) (xs := #[.tmp 30]) (ts := #[24]) (f := 27) (vs := #[.slice A30 (P ++ [(t : Int)]).length c30]) (caps := #[.pointer (some ⟨B, 0, none⟩), .pointer (some ⟨B + 1, 0, none⟩), .pointer (some ⟨B + 2, 0, none⟩)]) rfl rfl (by simp only [List.map_toArray, List.map_cons, List.map_nil]; rfl) (enters_ Try.func27 (by kernel_rfl) rfl _ w4)
          refine (IH.out A30 c30 (P ++ [(t : Int)]) w4 vc _ (by have := HP.out; simp; omega) (Kd.R_mono (Kd.R_lower ho30 (by omega)) (fun k hk => by show B + 3 ≤ k; omega)) hs4 hbound).mono ?_
          rintro e w5 ⟨rfl, v5, hs5, hk5, hat5⟩
          refine ⟨_, rfl, ?_⟩
          refine hK.out _ _ ((blk_cell hs5.2.2.2.2.1 0).trans rfl) (fun hS => ?_)
          clear hK K
          refine norm_ (a' := ?_) ?_ ?_
          rotate_left
          · show Act.put _ (some 31) _ = _
            simp only [Act.put, List.setIfInBounds_toArray, List.set_cons_zero, List.set_cons_succ]
            rfl
          refine done_ (by kernel_rfl) ?_
          have HS5 := Aside0.mk hs5
          have HK5 := Aside0.mk hk5
          clear hs5 hk5 hs4
          go_wp2
          go_roundg g
          case measure => omega
          case rel =>
            have hw4 : w.heap.size ≤ w4.heap.size := hk4.1
            refine ⟨t + 1, v5, by omega, by omega, by simp, ?_, keep_trans hk4 HK5.out HAT.out, ?_⟩
            · rw [cup_succ, HH.out, if_neg (by simp), ← List.append_assoc]
              exact HS5.out
            · rcases hat5 with h | ⟨b, h1, h2⟩
              · rw [h]
                exact HAT.out
              · exact .inr ⟨b, h1, by omega⟩
    · have c1 : decide ((t : Int) < (n : Int)) = false := decide_eq_false (by omega)
      obtain rfl : t = n := by omega
      go_wp2
      refine bodyPost_ret (v := .tuple #[]) (by simp [results, Try.results27, go_sem]) rfl ⟨rfl, vc, HSR.out, HKR.out, HAT.out⟩
theorem go27 (B : Nat) (w0 : World) (n : Nat) (hn : n ≤ 6) : ∀ (d : Nat) (A1 : Option Addr) (c1 : Nat) (Q : List Int) (w1 : World) (v1 : Value) (acc1 : List (List Int)), Q.length + d = n → (Kd.int .i64).R 3 w1 B (okF B) (.slice A1 Q.length c1) Q → St B w0 (n : Int) w1 v1 acc1 → acc1.length + n ^ d ≤ 100000 →
      Calls Try.prog 27 #[.slice A1 Q.length c1, .pointer (some ⟨B, 0, none⟩), .pointer (some ⟨B + 1, 0, none⟩), .pointer (some ⟨B + 2, 0, none⟩)] w1 (Post27 B w0 n w1 v1 (acc1 ++ comps n d Q)) := by
  intro d
  induction d with
  | zero =>
    intro A1 c1 Q w1 v1 acc1 h1 h2 h3 h4
    exact leaf27 B w0 n A1 c1 Q w1 v1 acc1 hn (by omega) h2 h3 (by simp at h4; omega)
  | succ d ih =>
    intro A1 c1 Q w1 v1 acc1 h1 h2 h3 h4
    exact step27 B w0 n d hn A1 c1 Q w1 v1 acc1 h1 h2 h3 h4 ih
def ans (a0 : Int) : Option (List (List Int)) := if 1 ≤ a0 ∧ a0 ≤ 6 then some (comps a0.toNat a0.toNat []) else some []
theorem pow_small : ∀ m : Nat, m < 7 → m ^ m ≤ 100000 := by decide
theorem start_St (w : World) (n : Int) : St w.heap.size w n (((w.alloc (.cells #[.int .i64 n] 3)).alloc (.cells #[.slice none 0 0] 34)).alloc (.cells #[fv w.heap.size] 49)) (.slice none 0 0) [] := by
  have h1 := blk_new w (.cells #[.int .i64 n] 3)
  have h2 := blk_new (w.alloc (.cells #[.int .i64 n] 3)) (.cells #[.slice none 0 0] 34)
  have h3 := blk_new ((w.alloc (.cells #[.int .i64 n] 3)).alloc (.cells #[.slice none 0 0] 34)) (.cells #[fv w.heap.size] 49)
  simp only [World.size_alloc] at h2 h3
  refine ⟨(((Below.refl _ w).alloc (Nat.le_refl _) _).alloc (by simp) _).alloc (by simp; omega) _, by simp, ?_, ?_, h3, Kd.R_nil _ _ _ _ _⟩
  · rw [Below.heap_alloc _ _ _ (by simp; omega), Below.heap_alloc _ _ _ (by simp)]
    exact h1
  · rw [Below.heap_alloc _ _ _ (by simp)]
    exact h2
set_option maxRecDepth 100000 in
set_option maxHeartbeats 4000000 in
theorem orders_calls (a0 : Int) (r : List (List Int)) (w : World) (h : ans a0 = some r) :
    Calls Try.prog 15 #[.int .i64 a0] w fun e w' => ∃ v0_ : Value, e = .returned (v0_) ∧ Kd.R (Kd.slice 3 (Kd.int .i64)) 24 w' w.heap.size (fun _ => True) v0_ r ∧ Below w.heap.size w w' := by
  unfold ans at h
  by_cases hr : 1 ≤ a0 ∧ a0 ≤ 6
  · rw [if_pos hr] at h
    obtain rfl := Option.some.inj h
    obtain ⟨n, rfl⟩ : ∃ n : Nat, a0 = n := ⟨a0.toNat, by omega⟩
    rw [Int.toNat_natCast]
    have hn : n ≤ 6 := by omega
    have c1 : decide ((n : Int) < 1) = false := decide_eq_false (by omega)
    have c2 : decide ((6 : Int) < (n : Int)) = false := decide_eq_false (by omega)
    have hgo := Aside0.mk (go27 w.heap.size w n hn n none 0 [] _ (.slice none 0 0) [] (by simp) (Kd.R_nil _ _ _ _ _) (start_St w (n : Int)) (by have := pow_small n (by omega); simpa using this))
    clear hr h hn
    go_enter Try.func15, Try.ntmps15
    go_wp2_with (go_at_call 27; refine (hgo.out).mono ?_; rintro e w2 ⟨rfl, v2, hs2, hk2, hat2⟩; have hc2 : w2.cell? ⟨w.heap.size + 1, 0, none⟩ = some v2 := (blk_cell hs2.2.2.2.1 0).trans rfl; have HS2 := Aside0.mk hs2; clear hs2 hk2 hat2)
    go_ret
    exact ⟨_, rfl, Kd.R_mono HS2.out.2.2.2.2.2 (fun _ _ => trivial), HS2.out.1⟩
  · rw [if_neg hr] at h
    obtain rfl := Option.some.inj h
    have hb0 : Below w.heap.size w (w.alloc (.cells #[.int .i64 a0] 3)) := (Below.refl _ w).alloc (Nat.le_refl _) _
    by_cases h1 : a0 < 1
    · have c1 : decide (a0 < 1) = true := decide_eq_true h1
      clear hr h h1
      go_enter Try.func15, Try.ntmps15
      go_wp2
      go_ret
      exact ⟨_, rfl, Kd.R_nil _ _ _ _ _, hb0⟩
    · have c1 : decide (a0 < 1) = false := decide_eq_false h1
      have c2 : decide ((6 : Int) < a0) = true := decide_eq_true (by omega)
      clear hr h h1
      go_enter Try.func15, Try.ntmps15
      go_wp2
      go_ret
      exact ⟨_, rfl, Kd.R_nil _ _ _ _ _, hb0⟩
end Go.Proofs.Ytflcjdpnpdkdeaa.Ord
