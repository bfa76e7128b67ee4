-- Written for this claim by a program of this session.
import Derived.Test.YteahmcfinijmdaaQOrderTellsx0
import Derived.Test.YteahmcfinijmdaaQOrderTellsx3
import Derived.Test.YteahmcfinijmdaaQOrderTellsx4
namespace Go.Proofs.Yteahmcfinijmdaa.QOrderTells
open Go.RowKit Go.Proofs.YteahmcfinijmdaaW.PrintWords Go.Proofs.YteahmcfinijmdaaW.PrintLast Go.Proofs.YteahmcfinijmdaaW.PrintMore
attribute [local go_sem] max2_int min2_int max_two min_two max_three min_three max_four min_four   -- for this text's walks alone
set_option linter.unusedVariables false
set_option linter.unusedSimpArgs false

/-! ### order_Race: function 8 -/
open Go Go.Proofs.Yteahmcfinijmdaa.Imp
theorem tknows (c : List Int) (i n : Int) (k : Nat) (hk : 20 ≤ k) : tick_Knows.f k c i n = some (right c && decide (0 ≤ i) && decide (i < (c.length : Int)) && decide (rd c i ≥ n)) := by
  unfold tick_Knows.f
  rw [tright c k hk, Option.bind_some]
  cases hr : right c
  · simp
  · rw [if_pos rfl]
    by_cases h0 : i ≥ 0
    · rw [if_pos h0]
      by_cases h1 : i < (c.length : Int)
      · rw [if_pos h1, if_pos (by omega), decide_eq_true (show 0 ≤ i by omega), decide_eq_true h1]
        simp
      · rw [if_neg h1, decide_eq_false h1]
        simp
    · rw [if_neg h0, decide_eq_false (show ¬ 0 ≤ i by omega)]
      simp
/-- the accesses of a cell that were plain, ahead of access i -/
def tch (l : List S33) : Nat → Int → List Int
  | 0, _ => []
  | i + 1, x => if ((rd_T33 l (i : Int)).f1 = 6 ∨ (rd_T33 l (i : Int)).f1 = 7) ∧ x = (rd_T33 l (i : Int)).f2 then tch l i x ++ [(i : Int)] else tch l i x
def order_Race.clash (x y : S33) : Option Bool := order_clash.f x.f0 x.f1 x.f2 x.f3 x.f4 y.f0 y.f1 y.f2 y.f3 y.f4
def order_Race.scan (k : Nat) (l : List S33) (O : List (List Int)) (i : Nat) : List Int → Option (Option Int)
  | [] => some none
  | j :: js => (order_Race.clash (rd_T33 l j) (rd_T33 l (i : Int))).bind fun c => if c = true then ((order_behind.f k l O (i : Int) j).bind fun b => if b = true then order_Race.scan k l O i js else some (some j)) else order_Race.scan k l O i js
def order_Race.go (k : Nat) (l : List S33) (O : List (List Int)) : Nat → Nat → Option (Int × Int × Bool)
  | 0, _ => some (0, 0, false)
  | d + 1, i => if (rd_T33 l (i : Int)).f1 = 6 ∨ (rd_T33 l (i : Int)).f1 = 7 then ((order_Race.scan k l O i (tch l i (rd_T33 l (i : Int)).f2)).bind fun s => match s with
      | some j => some (j, (i : Int), true)
      | none => order_Race.go k l O d (i + 1)) else order_Race.go k l O d (i + 1)
def order_Race.f (k : Nat) (a0 : Int) (l1 : List S33) : Option (Int × Int × Bool) := (order_Clocks.f k a0 l1).bind fun O => if O = [] then some (0, 0, false) else if (l1.all fun a => decide (0 ≤ a.f2) && decide (a.f2 < 9223372036854775808)) = true then (if l1.length < 1000000000000 then order_Race.go k l1 O l1.length 0 else none) else none
theorem order_Race.scan_mono (k : Nat) (l : List S33) (O : List (List Int)) (i : Nat) : ∀ js, LeO (order_Race.scan k l O i js) (order_Race.scan (k + 1) l O i js) := by
  intro js
  induction js with
  | nil => exact LeO.refl _
  | cons j js ih =>
    unfold order_Race.scan
    refine LeO.bind (LeO.refl _) (fun c => LeO.ite (LeO.bind (order_behind.mono _ _ _ _ _) (fun b => LeO.ite ih (LeO.refl _))) ih)
theorem order_Race.go_mono (k : Nat) (l : List S33) (O : List (List Int)) : ∀ d i, LeO (order_Race.go k l O d i) (order_Race.go (k + 1) l O d i) := by
  intro d
  induction d with
  | zero => intro i; exact LeO.refl _
  | succ d ih =>
    intro i
    unfold order_Race.go
    refine LeO.ite (LeO.bind (order_Race.scan_mono _ _ _ _ _) (fun s => ?_)) (ih _)
    cases s with
    | none => exact ih _
    | some j => exact LeO.refl _
theorem order_Race.mono : ∀ a0 a1 k, LeO (order_Race.f k a0 a1) (order_Race.f (k + 1) a0 a1) := by
  intro a0 a1 k
  unfold order_Race.f
  exact LeO.bind (order_Clocks.mono _ _ _) (fun O => LeO.ite (LeO.refl _) (LeO.ite (LeO.ite (order_Race.go_mono _ _ _ _ _) (LeO.refl _)) (LeO.refl _)))
theorem MapIs.run_look {P : Program} {o : Oper} {a : Act} (w : World) (mo x : Operand) (t e : TypeId) (hop : o.op = Op.lookup t mo x false) (h3 : P.underlying 3 = some (.int .i64)) (ht : P.underlying t = some (.map 3 e)) (hz : (zeroValue e).run P w = .ok (.slice none 0 0) w)
    (b n : Nat) (m : Int → Option Value) (hm : a.eval mo = .map (some b)) (h : MapIs P w b n m) (i : Int) (hx : a.eval x = .int .i64 i) (hi : (Lit.int .i64 i).wf = true) : (execOp a.eval o).run P w = .ok (.value ((m i).getD (.slice none 0 0))) w := by
  obtain ⟨D, h1, h2, hD⟩ := h
  obtain ⟨v, ps, hrun, hv⟩ := h1.lookup (Maps.int_keyed h3) ht hz (zd := .held (.slice none 0 0)) rfl (key_is i h3 hi)
  obtain ⟨e1, e2⟩ := hD i
  rw [e2] at hv
  have : v = (m i).getD (.slice none 0 0) := by
    have := (Prod.mk.inj (Option.some.inj hv)).1
    exact DataW.held.inj this
  rw [this] at hrun
  simp [execOp, hop, hm, hx, hrun, Result.andThen]
theorem MapIs.run_put {P : Program} {o : Oper} {a : Act} (w : World) (mo x vo : Operand) (t e : TypeId) (hop : o.op = Op.mapUpdate t mo x vo) (h3 : P.underlying 3 = some (.int .i64)) (ht : P.underlying t = some (.map 3 e))
    (b n : Nat) (m : Int → Option Value) (hm : a.eval mo = .map (some b)) (h : MapIs P w b n m) (hn : n < maxLen) (i : Int) (hx : a.eval x = .int .i64 i) (hi : (Lit.int .i64 i).wf = true) (v : Value) (hv : a.eval vo = v) :
    ∃ w', (execOp a.eval o).run P w = .ok .skip w' ∧ MapIs P w' b (n + 1) (fun y => if y = i then some v else m y) ∧ w.grownBy w' (some b) := by
  obtain ⟨D, h1, h2, hD⟩ := h
  obtain ⟨w', hrun, r1, r2⟩ := h1.update (Maps.int_keyed h3) ht hn (key_is i h3 hi) (show asIs v = some (.held v, []) from rfl)
  refine ⟨w', ?_, ⟨D.put (key_ i) (.held v), r1, h2.put _ _, fun y => ?_⟩, r2⟩
  · simp [execOp, hop, hm, hx, hv, hrun, Result.andThen]
  · by_cases hy : y = i
    · subst hy
      simp only [if_true]
      exact ⟨Maps.has_put_same h2 (by simp [key_, WideAt.IsKeyLit]) _, Maps.atKey_put_same h2 (by simp [key_, WideAt.IsKeyLit]) _ _⟩
    · have hne : key_ y ≠ key_ i := fun e => hy (by simpa [key_] using e)
      simp only [if_neg hy]
      exact ⟨(Maps.has_put_other hne _).trans (hD y).1, (Maps.atKey_put_other hne _ _).trans (hD y).2⟩
theorem MapIs.put_step {P : Program} {ops : Array Oper} {o : Oper} {a : Act} {Q : Exit → Act → World → Prop} {K : Act → World → Prop} (hw : Region.wanted o (yielded ops a.tmps) = true) (hN : o.dst = none) (w : World) (mo x vo : Operand) (t e : TypeId) (hop : o.op = Op.mapUpdate t mo x vo) (h3 : P.underlying 3 = some (.int .i64)) (ht : P.underlying t = some (.map 3 e))
    (b n : Nat) (m : Int → Option Value) (hm : a.eval mo = .map (some b)) (h : MapIs P w b n m) (hn : n < maxLen) (i : Int) (hx : a.eval x = .int .i64 i) (hi : (Lit.int .i64 i).wf = true) (v : Value) (hv : a.eval vo = v)
    (hK : ∀ w', MapIs P w' b (n + 1) (fun y => if y = i then some v else m y) → w.grownBy w' (some b) → K a w') : if Region.wanted o (yielded ops a.tmps) = true then Oper.wp P o a w K Q else K (a.put none undef) w := by
  obtain ⟨w', hrun, h1, h2⟩ := MapIs.run_put w mo x vo t e hop h3 ht b n m hm h hn i hx hi v hv
  exact skip_ hw hN hrun (hK w' h1 h2)
theorem tch_mem (l : List S33) : ∀ (i : Nat) (x y : Int), y ∈ tch l i x → 0 ≤ y ∧ y < i := by
  intro i
  induction i with
  | zero => intro x y h; simp [tch] at h
  | succ i ih =>
    intro x y h
    unfold tch at h
    split at h
    · rcases List.mem_append.1 h with h | h
      · have := ih x y h; omega
      · simp at h; omega
    · have := ih x y h; omega
theorem tch_len (l : List S33) : ∀ (i : Nat) (x : Int), (tch l i x).length ≤ i := by
  intro i
  induction i with
  | zero => intro x; simp [tch]
  | succ i ih =>
    intro x
    unfold tch
    have := ih x
    split
    · simp; omega
    · omega
def plainK (k : Int) : Bool := decide (k = 6) || decide (k = 7)
theorem plain_is (k : Int) : order_plain.f k = some (plainK k) := by
  unfold order_plain.f plainK
  by_cases h : k = 6
  · rw [if_pos h]; simp [h]
  · rw [if_neg h]; simp [h]; rfl
theorem plainK_iff (k : Int) : plainK k = true ↔ (k = 6 ∨ k = 7) := by simp [plainK]
/-- what is known in Race's loop -/
def Rt (w w1 W : World) (l : List S33) (i : Nat) (mv : Int → Option Value) (tg : Nat → Int) : Prop :=
  Below w.heap.size w W ∧ Below w1.heap.size w1 W ∧ MapIs Try.prog W w1.heap.size i mv ∧ (∀ x, (Kd.int .i64).R 3 W (w1.heap.size + 1) (fun k => tg k = x) ((mv x).getD (.slice none 0 0)) (tch l i x)) ∧ w1.heap.size + 1 ≤ W.heap.size
theorem Rt.start {w w1 : World} (l : List S33) (h : Below w.heap.size w w1) : Rt w w1 (w1.alloc (.map #[] 0)) l 0 (fun _ => none) (fun _ => 0) := by
  refine ⟨below_alloc h _, below_alloc (Below.refl _ _) _, MapIs.made w1, fun x => Kd.R_nil _ _ _ _ _, ?_⟩
  show w1.heap.size + 1 ≤ (w1.heap.push _).size
  rw [Array.size_push]
  exact Nat.le_refl _
theorem Rt.next {w w1 W W' : World} {l : List S33} {i : Nat} {mv : Int → Option Value} {tg : Nat → Int} (h : Rt w w1 W l i mv tg) (hw : w.heap.size ≤ w1.heap.size) (hb : Below W.heap.size W W') : Rt w w1 W' l i mv tg := by
  obtain ⟨h1, h2, h3, h4, h5⟩ := h
  have hs := hb.size
  exact ⟨h1.trans (hb.mono (by omega)), h2.trans (hb.mono (by omega)), h3.move (hb.block _ h3.lt), fun x => Kd.R_below (h4 x) hb, by omega⟩
theorem Rt.pass {w w1 W : World} {l : List S33} {i : Nat} {mv : Int → Option Value} {tg : Nat → Int} (h : Rt w w1 W l i mv tg) (hn : ¬ ((rd_T33 l (i : Int)).f1 = 6 ∨ (rd_T33 l (i : Int)).f1 = 7)) : Rt w w1 W l (i + 1) mv tg := by
  obtain ⟨h1, h2, h3, h4, h5⟩ := h
  refine ⟨h1, h2, h3.mono (by omega), fun x => ?_, h5⟩
  have : tch l (i + 1) x = tch l i x := by
    show (if _ then _ else _) = _
    rw [if_neg (fun e => hn e.1)]
  rw [this]
  exact h4 x
/-- behind touched[x] = append(touched[x], i) -/
theorem Rt.put {w w1 W W1 W2 : World} {l : List S33} {i : Nat} {mv : Int → Option Value} {tg : Nat → Int} {v1 : Value} {x : Int} (h : Rt w w1 W l i mv tg) (hw : w.heap.size ≤ w1.heap.size) (hp : (rd_T33 l (i : Int)).f1 = 6 ∨ (rd_T33 l (i : Int)).f1 = 7) (hx : x = (rd_T33 l (i : Int)).f2)
    (hg1 : W.grownBy W1 ((mv x).getD (.slice none 0 0)).ownBlock) (hR : (Kd.int .i64).R 3 W1 (w1.heap.size + 1) (fun k => (if W.heap.size ≤ k then x else tg k) = x) v1 (tch l i x ++ [(i : Int)]))
    (hm : MapIs Try.prog W2 w1.heap.size (i + 1) (fun y => if y = x then some v1 else mv y)) (hg2 : W1.grownBy W2 (some w1.heap.size)) : Rt w w1 W2 l (i + 1) (fun y => if y = x then some v1 else mv y) (fun k => if W.heap.size ≤ k then x else tg k) := by
  obtain ⟨h1, h2, h3, h4, h5⟩ := h
  have hown : ∀ k, ((mv x).getD (.slice none 0 0)).ownBlock = some k → w1.heap.size + 1 ≤ k ∧ tg k = x := fun k hk => ⟨((Kd.R_bound (h4 x)).1 k hk).2.1, (h4 x).1 k hk⟩
  have hs1 := hg1.size
  have hs2 := hg2.size
  have b1 : Below w.heap.size w W1 := pw_below_grown h1 _ (by have := h1.size; omega) hg1 (fun k hk => by have := (hown k hk).1; omega)
  have b2 : Below w1.heap.size w1 W1 := pw_below_grown h2 _ (by omega) hg1 (fun k hk => by have := (hown k hk).1; omega)
  refine ⟨pw_below_grown b1 _ (by have := h1.size; omega) hg2 (fun k hk => by cases hk; omega), pw_below_grown b2 _ (by omega) hg2 (fun k hk => by cases hk; omega), hm, fun y => ?_, by omega⟩
  have far : ∀ (u : Value) (xs : List Int) (z : Int), (Kd.int .i64).R 3 W1 (w1.heap.size + 1) (fun k => (if W.heap.size ≤ k then x else tg k) = z) u xs → (Kd.int .i64).R 3 W2 (w1.heap.size + 1) (fun k => (if W.heap.size ≤ k then x else tg k) = z) u xs := fun u xs z hu =>
    Kd.R_mono (Kd.R_grown (Kd.R_bound hu) hg2 (fun k hk e => by cases e; have := hk.2.1; omega)) (fun _ hk => hk.1)
  by_cases e : y = x
  · subst e
    have e2 : tch l (i + 1) y = tch l i y ++ [(i : Int)] := by
      show (if _ then _ else _) = _
      rw [if_pos ⟨hp, hx⟩]
    simp only [if_true]
    rw [e2]
    exact far _ _ _ hR
  · have e2 : tch l (i + 1) y = tch l i y := by
      show (if _ then _ else _) = _
      rw [if_neg (fun h => e (h.2.trans hx.symm))]
    simp only [if_neg e]
    rw [e2]
    refine far _ _ _ ?_
    refine Kd.R_mono (Kd.R_grown (Kd.R_bound (h4 y)) hg1 (fun k hk e3 => ?_)) (fun k hk => ?_)
    · exact e (hk.1.symm.trans (hown k e3.symm).2)
    · have hlt := hk.2.2.1
      rw [if_neg (by omega)]
      exact hk.1
def Sr (w w1 : World) (l : List S33) (i : Nat) (mv : Int → Option Value) (tg : Nat → Int) (ga : Nat) (a : S33) (W : World) : Prop := Rt w w1 W l i mv tg ∧ Av W ga a
theorem Sr.next {w w1 W W' : World} {l : List S33} {i ga : Nat} {a : S33} {mv : Int → Option Value} {tg : Nat → Int} (h : Sr w w1 l i mv tg ga a W) (hw : w.heap.size ≤ w1.heap.size) (hb : Below W.heap.size W W') : Sr w w1 l i mv tg ga a W' := ⟨h.1.next hw hb, (hb.block _ (lt_of_blk h.2)).trans h.2⟩
theorem Av.c3 {W : World} {ga : Nat} {a : S33} (h : Av W ga a) : W.cell? ⟨ga, 3, none⟩ = some (.int .u64 a.f3) := (blk_cell h 3).trans rfl
theorem Av.c4 {W : World} {ga : Nat} {a : S33} (h : Av W ga a) : W.cell? ⟨ga, 4, none⟩ = some (.int .u64 a.f4) := (blk_cell h 4).trans rfl
/-- what the reads of region 15 ask -/
def Sp (gm i : Nat) (mv : Int → Option Value) (ga : Nat) (a : S33) (W : World) : Prop := MapIs Try.prog W gm i mv ∧ Av W ga a
theorem Sp.kept {gm i ga : Nat} {mv : Int → Option Value} {a : S33} {W W' : World} {row : Option Nat} (h : Sp gm i mv ga a W) (hg : W.grownBy W' row) (h1 : some gm ≠ row) (h2 : some ga ≠ row) : Sp gm i mv ga a W' := ⟨h.1.kept hg h1, (hg.block _ (lt_of_blk h.2) h2).trans h.2⟩
set_option maxHeartbeats 8000000 in
set_option maxRecDepth 100000 in
theorem order_Race.calls (k : Nat) (a0 : Int) (A1 : Option Addr) (c1 : Nat) (l1 : List S33) (r1 : Int) (r2 : Int) (r3 : Bool) (w : World) (hr1 : Kd.C k33 w A1 l1.length l1) (hc1 : l1.length ≤ c1) (h : order_Race.f k a0 l1 = some (r1, r2, r3)) :
    Calls Try.prog 8 #[.int .i64 a0, .slice A1 l1.length c1] w fun e w' => e = .returned (.tuple #[.int .i64 r1, .int .i64 r2, .bool r3]) ∧ Below w.heap.size w w' := by
  have hu33 := Try.underlying33
  have HR1 := Aside0.mk hr1
  have HC1 := Aside0.mk hc1
  clear hr1 hc1
  have HB := Aside0.mk (Below.refl w.heap.size w)
  have H := h
  unfold order_Race.f at H
  clear h
  replace H := Option.bind_eq_some_iff.mp H
  obtain ⟨O, A30, H⟩ := H
  have A3 := Aside0.mk A30
  clear A30
  by_cases c4 : O = []
  · subst c4
    rw [if_pos rfl] at H
    obtain ⟨rfl, rfl, rfl⟩ : r1 = 0 ∧ r2 = 0 ∧ r3 = false := by simpa [eq_comm] using H
    clear H
    have hnl : ∀ W : World, (binOp .eql 34 (.slice none 0 0) (.slice none 0 0)).run Try.prog W = .ok (.bool true) W := fun _ => rfl
    go_enter Try.func8, Try.ntmps8
    go_wp2_with (first | (go_at_call 12; (with_reducible refine (order_Clocks.calls0 k a0 _ _ l1 [] _ ?side1 ?side2 A3.out).mono ?_); (case side1 => exact HR1.out); (case side2 => exact HC1.out); rintro e w1 ⟨v0, rfl, hv, hb0, hnil⟩; obtain rfl := hnil rfl; replace HB := Aside0.mk (HB.out.trans (hb0.mono (Nat.le_refl _))); clear hb0 hv hnil))
    go_ret3
    exact ⟨rfl, HB.out⟩
  · rw [if_neg c4] at H
    have k1 : (l1.all fun a => decide (0 ≤ a.f2) && decide (a.f2 < 9223372036854775808)) = true := by
      by_cases k1 : (l1.all fun a => decide (0 ≤ a.f2) && decide (a.f2 < 9223372036854775808)) = true
      · exact k1
      · rw [if_neg k1] at H; exact absurd H (by simp)
    have k2 : l1.length < 1000000000000 := by
      by_cases k2 : l1.length < 1000000000000
      · exact k2
      · rw [if_pos k1, if_neg k2] at H; exact absurd H (by simp)
    rw [if_pos k1, if_pos k2] at H
    have hlen := k2
    have K1 := Aside0.mk k1
    have HG := Aside0.mk H
    clear H k1 k2
    have hOp : 0 < O.length := by cases O with | nil => exact absurd rfl c4 | cons _ _ => simp
    clear c4
    have hnl : ∀ (W : World) (g : Addr) (n c : Nat), (binOp .eql 34 (.slice (some g) n c) (.slice none 0 0)).run Try.prog W = .ok (.bool false) W := fun _ _ _ _ => rfl
    have hmm : ∀ W : World, (Instr.makeMap 52 none).run Try.prog W = .ok (.map (some W.heap.size)) (W.alloc (.map #[] 0)) := fun _ => rfl
    go_enter Try.func8, Try.ntmps8
    go_wp2_with (first | (go_at_call 12; (with_reducible refine (order_Clocks.calls0 k a0 _ _ l1 O _ ?side1 ?side2 A3.out).mono ?_); (case side1 => exact HR1.out); (case side2 => exact HC1.out); rintro e w1 ⟨v0, rfl, hvS, hb0, hnil⟩; have hv := Kd.S_R hvS; clear hvS; obtain ⟨go_, co, rfl, hgo⟩ := Kd.R_form hv hOp; replace HB := Aside0.mk (HB.out.trans (hb0.mono (Nat.le_refl _))); have HV := Aside0.mk hv; clear hb0 hnil hgo hv))
    have hwz := hb_size HB.out
    have HW := Aside0.mk hwz
    have HS0 := Aside0.mk (Rt.start l1 HB.out)
    clear hnl hmm hwz
    have hlook := fun W : World => (show (zeroValue 37).run Try.prog W = .ok (.slice none 0 0) W from rfl)
    have HL := Aside0.mk hlook
    clear hlook
    go_loopg [21] (l1.length + 1) (fun kq v21 wc => ∃ (i : Nat) (mv : Int → Option Value) (tg : Nat → Int), i ≤ l1.length ∧ l1.length < i + kq ∧ v21 = .int .i64 (i : Int) ∧ Aside0 (order_Race.go k l1 O (l1.length - i) i = some (r1, r2, r3)) ∧ Aside0 (Rt w w1 wc l1 i mv tg))
    case atStart => exact ⟨0, _, _, by omega, by omega, rfl, ⟨by rw [Nat.sub_zero]; exact HG.out⟩, HS0⟩
    case round =>
      clear HS0 HG
      obtain ⟨i, mv, tg, hi, hik, rfl, HG, HI⟩ := hrel
      cases gk with
      | zero => omega
      | succ g =>
      by_cases hlt : i < l1.length
      · have c1b : decide ((i : Int) < (l1.length : Int)) = true := decide_eq_true (by omega)
        have q1 : (0 : Int) ≤ (i : Int) := by omega
        have q2 : (i : Int) < (l1.length : Int) := by omega
        have hd : l1.length - i = (l1.length - (i + 1)) + 1 := by omega
        have H := HG.out
        clear HG
        rw [hd] at H
        unfold order_Race.go at H
        clear hd
        obtain ⟨p5, p6⟩ : 0 ≤ (rd_T33 l1 i).f2 ∧ (rd_T33 l1 i).f2 < 9223372036854775808 := by
          have := List.all_eq_true.1 K1.out l1[i] (List.getElem_mem hlt)
          simpa [rd_T33, List.getD_eq_getElem?_getD, hlt] using this
        obtain ⟨ad, e101, hx0, hx1, hx2, hx3, hx4⟩ := at_T33 (Kd.C_below HR1.out HI.out.1) (i : Int) q1 q2
        cases e101
        simp only [Int.toNat_natCast] at hx0 hx1 hx2 hx3 hx4
        obtain ⟨a, hae⟩ : ∃ a, rd_T33 l1 (i : Int) = a := ⟨_, rfl⟩
        have HA := Aside0.mk hae
        rw [hae] at hx0 hx1 hx2 hx3 hx4 H p5 p6
        clear hae
        have HSa := Aside0.mk (⟨HI.out.next HW.out (below_alloc (Below.refl _ _) _), blk_new _ _⟩ : Sr w w1 l1 i mv tg wr.heap.size a (wr.alloc (.cells #[.int .i64 a.f0, .int .i64 a.f1, .int .i64 a.f2, .int .u64 a.f3, .int .u64 a.f4] 33)))
        by_cases hp : a.f1 = 6 ∨ a.f1 = 7
        · rw [if_pos hp] at H
          replace H := Option.bind_eq_some_iff.mp H
          obtain ⟨s, HS1, H⟩ := H
          have HSC := Aside0.mk HS1
          have HR := Aside0.mk H
          clear HS1 H
          have hpb : order_plain.f a.f1 = some true := by rw [plain_is, (plainK_iff _).2 hp]
          go_upto_region 9 with (first | (go_at_call 30; (with_reducible refine (order_plain.calls a.f1 true _ hpb).mono ?_); rintro e w2 ⟨rfl, ⟨nd, rfl⟩⟩))
          have HSb := Aside0.mk (Sr.next HSa.out HW.out (pw_below_drewN (Below.refl _ _) nd))
          clear HSa hx0 hx1 hx2 hx3 hx4 hpb
          generalize (wr.alloc (.cells #[.int .i64 a.f0, .int .i64 a.f1, .int .i64 a.f2, .int .u64 a.f3, .int .u64 a.f4] 33)).drewN nd = wb at *
          obtain ⟨At, ct, hve⟩ := Kd.R_slice (HI.out.2.2.2.1 a.f2)
          have hwf := key_wf p5 p6
          have HKW := Aside0.mk hwf
          have HVE := Aside0.mk hve
          have hc2 := HSb.out.2.c2
          clear hwf HI
          generalize wr.heap.size = ga at *
          go_wp2_with (first | ((with_reducible refine gate_ (.lookup 52 (.tmp 30) (.tmp 32) false) rfl ?_); refine MapIs.look _ rfl (.tmp 30) (.tmp 32) 52 37 rfl Try.underlying3 Try.underlying52 (HL.out _) w1.heap.size i mv rfl HSb.out.1.2.2.1 a.f2 rfl HKW.out ?_; rw [hve]))
          clear hve hc2
          obtain ⟨T, hTe⟩ : ∃ T, tch l1 i a.f2 = T := ⟨_, rfl⟩
          rw [hTe] at HSC ⊢
          have HTE := Aside0.mk hTe
          clear hTe
          go_loopg [35] (T.length + 1) (fun kq v35 wc => ∃ (m : Nat), m ≤ T.length ∧ T.length < m + kq ∧ v35 = .int .i64 (m : Int) ∧ Aside0 (order_Race.scan k l1 O i (T.drop m) = some s) ∧ Aside0 (Sr w w1 l1 i mv tg ga a wc))
          case atStart => exact ⟨0, by omega, by omega, rfl, ⟨by rw [List.drop_zero]; exact HSC.out⟩, HSb⟩
          case round =>
            clear HSb HSC
            obtain ⟨m, hm, hmk, rfl, HSC, HSW⟩ := hrel
            cases gk with
            | zero => omega
            | succ g2 =>
            by_cases hlm : m < T.length
            · have c2b : decide ((m : Int) < (T.length : Int)) = true := decide_eq_true (by omega)
              have y1 : (0 : Int) ≤ (m : Int) := by omega
              have y2 : (m : Int) < (T.length : Int) := by omega
              have hRT := HSW.out.1.2.2.2.1 a.f2
              rw [HVE.out, HTE.out] at hRT
              obtain ⟨adT, e103, hxT⟩ := Kd.at_int (Kd.R_reads' hRT).2.2 (m : Int) y1 y2
              cases e103
              simp only [Int.toNat_natCast] at hxT
              have H := HSC.out
              clear HSC hRT
              rw [rd_drop T m hlm] at H
              unfold order_Race.scan at H
              obtain ⟨z1, z3⟩ : 0 ≤ rd T (m : Int) ∧ rd T (m : Int) < i := by
                refine tch_mem l1 i a.f2 _ ?_
                rw [HTE.out, rd_get T m hlm]
                exact List.getElem_mem hlm
              have z2 : rd T (m : Int) < (l1.length : Int) := by omega
              generalize rd T (m : Int) = xj at *
              replace H := Option.bind_eq_some_iff.mp H
              obtain ⟨c, HC0, H⟩ := H
              obtain ⟨b, hbe⟩ : ∃ b, rd_T33 l1 xj = b := ⟨_, rfl⟩
              have HJ := Aside0.mk hbe
              rw [HA.out, hbe] at HC0
              have HCL := Aside0.mk HC0
              clear hbe HC0
              cases c with
              | false =>
                rw [if_neg (by decide)] at H
                have HN := Aside0.mk H
                clear H
                go_upto_region 12 with (fail)
                refine start_ (n := 14) (S := Sr w w1 l1 i mv tg ga a) (ds := []) #[false, false, false, false, false, false, false, false, false, false, false, false, false, false] (by kernel_rfl) rfl rfl (Sr.next HSW.out HW.out (draw_below _)) (fun hS => ?_)
                refine pure_ (i := 0) (N := some 39) (v := ?_) (a' := ?_) #[true, false, false, false, false, false, false, false, false, false, false, false, false, false] rfl rfl (by kernel_rfl) (fun _ _ _ h => h) (Or.inl ⟨by rfl, ?_⟩) ?_ ?_
                rotate_left
                · intro w'
                  go_simp
                  try (with_reducible rfl)
                rotate_left
                · simp only [Act.put, List.setIfInBounds_toArray, List.set_cons_zero, List.set_cons_succ]
                  rfl
                refine pure_ (i := 1) (N := some 40) (v := ?_) (a' := ?_) #[true, true, false, false, false, false, false, false, false, false, false, false, false, false] rfl rfl (by kernel_rfl) (fun _ _ _ h => h) (Or.inl ⟨by rfl, ?_⟩) ?_ ?_
                rotate_left
                · intro w'
                  go_simp
                  try (with_reducible rfl)
                rotate_left
                · simp only [Act.put, List.setIfInBounds_toArray, List.set_cons_zero, List.set_cons_succ]
                  rfl
                refine pure_ (i := 2) (N := some 41) (v := ?_) (a' := ?_) #[true, true, true, false, false, false, false, false, false, false, false, false, false, false] rfl rfl (by kernel_rfl) (fun _ _ _ h => h) (Or.inl ⟨by rfl, ?_⟩) ?_ ?_
                rotate_left
                · intro w'
                  go_simp
                  try (with_reducible rfl)
                rotate_left
                · simp only [Act.put, List.setIfInBounds_toArray, List.set_cons_zero, List.set_cons_succ]
                  rfl
                refine take_ (i := 3) (N := some 42) (v := ?_) (a' := ?_) #[true, true, true, true, false, false, false, false, false, false, false, false, false, false] rfl rfl (by kernel_rfl) (fun _ _ _ h => h) (Or.inl ⟨by rfl, ?_⟩) hS ?_ ?_
                rotate_left
                · intro w' hw; obtain ⟨ad2, e102, hy0, hy1, hy2, hy3, hy4⟩ := at_T33 (Kd.C_below HR1.out hw.1.1) xj z1 z2; cases e102; rw [HJ.out] at hy0 hy1 hy2 hy3 hy4
                  go_simp
                  try (with_reducible rfl)
                rotate_left
                · simp only [Act.put, List.setIfInBounds_toArray, List.set_cons_zero, List.set_cons_succ]
                  rfl
                refine take_ (i := 4) (N := some 43) (v := ?_) (a' := ?_) #[true, true, true, true, true, false, false, false, false, false, false, false, false, false] rfl rfl (by kernel_rfl) (fun _ _ _ h => h) (Or.inl ⟨by rfl, ?_⟩) hS ?_ ?_
                rotate_left
                · intro w' hw; have hc0 := hw.2.c0; have hc1 := hw.2.c1; have hc2 := hw.2.c2; have hc3 := hw.2.c3; have hc4 := hw.2.c4
                  go_simp
                  try (with_reducible rfl)
                rotate_left
                · simp only [Act.put, List.setIfInBounds_toArray, List.set_cons_zero, List.set_cons_succ]
                  rfl
                refine one_ (i := 5) (N := some 44) #[true, true, true, true, true, true, false, false, false, false, false, false, false, false] rfl rfl (by kernel_rfl) (by simp) (fun K hK => ?_)
                refine goes_ Try.func31 (by kernel_rfl) rfl #[.agg #[.int .i64 b.f0, .int .i64 b.f1, .int .i64 b.f2, .int .u64 b.f3, .int .u64 b.f4], .agg #[.int .i64 a.f0, .int .i64 a.f1, .int .i64 a.f2, .int .u64 a.f3, .int .u64 a.f4]] (by rfl) rfl rfl (by (try simp only [List.map_toArray, List.map_cons, List.map_nil]); first | done | rfl) ?_
                refine (order_clash.calls _ _ _ _ _ _ _ _ _ _ false _ HCL.out).mono ?_
                rintro e w' ⟨rfl, hbx⟩
                refine ⟨_, rfl, ?_⟩
                replace hS := Sr.next hS HW.out hbx
                refine hK.out _ _ hS (fun _ => ?_)
                clear hK K
                refine norm_ (a' := ?_) ?_ ?_
                rotate_left
                · simp only [Act.put, List.setIfInBounds_toArray, List.set_cons_zero, List.set_cons_succ]
                  rfl
                refine pure_ (i := 6) (N := some 45) (v := ?_) (a' := ?_) #[true, true, true, true, true, true, true, false, false, false, false, false, false, false] rfl rfl (by kernel_rfl) (fun _ _ _ h => h) (Or.inl ⟨by rfl, ?_⟩) ?_ ?_
                rotate_left
                · intro w'
                  go_simp
                  try (with_reducible rfl)
                rotate_left
                · simp only [Act.put, List.setIfInBounds_toArray, List.set_cons_zero, List.set_cons_succ]
                  rfl
                refine pure_ (i := 7) (N := some 46) (v := undef) (a' := ?_) #[true, true, true, true, true, true, true, true, false, false, false, false, false, false] rfl rfl (by kernel_rfl) (fun _ _ _ h => h) (Or.inr ⟨by rfl, rfl⟩) ?_ ?_
                rotate_left
                · simp only [Act.put, List.setIfInBounds_toArray, List.set_cons_zero, List.set_cons_succ]
                  rfl
                refine pure_ (i := 8) (N := some 47) (v := undef) (a' := ?_) #[true, true, true, true, true, true, true, true, true, false, false, false, false, false] rfl rfl (by kernel_rfl) (fun _ _ _ h => h) (Or.inr ⟨by rfl, rfl⟩) ?_ ?_
                rotate_left
                · simp only [Act.put, List.setIfInBounds_toArray, List.set_cons_zero, List.set_cons_succ]
                  rfl
                refine pure_ (i := 9) (N := some 48) (v := undef) (a' := ?_) #[true, true, true, true, true, true, true, true, true, true, false, false, false, false] rfl rfl (by kernel_rfl) (fun _ _ _ h => h) (Or.inr ⟨by rfl, rfl⟩) ?_ ?_
                rotate_left
                · simp only [Act.put, List.setIfInBounds_toArray, List.set_cons_zero, List.set_cons_succ]
                  rfl
                refine pure_ (i := 10) (N := some 49) (v := undef) (a' := ?_) #[true, true, true, true, true, true, true, true, true, true, true, false, false, false] rfl rfl (by kernel_rfl) (fun _ _ _ h => h) (Or.inr ⟨by rfl, rfl⟩) ?_ ?_
                rotate_left
                · simp only [Act.put, List.setIfInBounds_toArray, List.set_cons_zero, List.set_cons_succ]
                  rfl
                refine pure_ (i := 11) (N := some 50) (v := undef) (a' := ?_) #[true, true, true, true, true, true, true, true, true, true, true, true, false, false] rfl rfl (by kernel_rfl) (fun _ _ _ h => h) (Or.inr ⟨by rfl, rfl⟩) ?_ ?_
                rotate_left
                · simp only [Act.put, List.setIfInBounds_toArray, List.set_cons_zero, List.set_cons_succ]
                  rfl
                refine pure_ (i := 12) (N := some 51) (v := undef) (a' := ?_) #[true, true, true, true, true, true, true, true, true, true, true, true, true, false] rfl rfl (by kernel_rfl) (fun _ _ _ h => h) (Or.inr ⟨by rfl, rfl⟩) ?_ ?_
                rotate_left
                · simp only [Act.put, List.setIfInBounds_toArray, List.set_cons_zero, List.set_cons_succ]
                  rfl
                refine pure_ (i := 13) (N := some 52) (v := ?_) (a' := ?_) #[true, true, true, true, true, true, true, true, true, true, true, true, true, true] rfl rfl (by kernel_rfl) (fun _ _ _ h => h) (Or.inl ⟨by rfl, ?_⟩) ?_ ?_
                rotate_left
                · intro w'
                  go_simp
                  try (with_reducible rfl)
                rotate_left
                · simp only [Act.put, List.setIfInBounds_toArray, List.set_cons_zero, List.set_cons_succ]
                  rfl
                refine done_ (by kernel_rfl) ?_
                go_wp2
                go_roundg g2
                case measure => omega
                case rel => exact ⟨m + 1, by omega, by omega, by first | rfl | (rw [wrap_succ m (by have := tch_len l1 i a.f2; rw [HTE.out] at this; omega)]), HN, ⟨hS⟩⟩
              | true =>
                rw [if_pos rfl] at H
                replace H := Option.bind_eq_some_iff.mp H
                obtain ⟨bb, HBH0, H⟩ := H
                have HBH := Aside0.mk HBH0
                clear HBH0
                have HN := Aside0.mk H
                clear H
                go_upto_region 12 with (fail)
                refine start_ (n := 14) (S := Sr w w1 l1 i mv tg ga a) (ds := []) #[false, false, false, false, false, false, false, false, false, false, false, false, false, false] (by kernel_rfl) rfl rfl (Sr.next HSW.out HW.out (draw_below _)) (fun hS => ?_)
                refine pure_ (i := 0) (N := some 39) (v := ?_) (a' := ?_) #[true, false, false, false, false, false, false, false, false, false, false, false, false, false] rfl rfl (by kernel_rfl) (fun _ _ _ h => h) (Or.inl ⟨by rfl, ?_⟩) ?_ ?_
                rotate_left
                · intro w'
                  go_simp
                  try (with_reducible rfl)
                rotate_left
                · simp only [Act.put, List.setIfInBounds_toArray, List.set_cons_zero, List.set_cons_succ]
                  rfl
                refine pure_ (i := 1) (N := some 40) (v := ?_) (a' := ?_) #[true, true, false, false, false, false, false, false, false, false, false, false, false, false] rfl rfl (by kernel_rfl) (fun _ _ _ h => h) (Or.inl ⟨by rfl, ?_⟩) ?_ ?_
                rotate_left
                · intro w'
                  go_simp
                  try (with_reducible rfl)
                rotate_left
                · simp only [Act.put, List.setIfInBounds_toArray, List.set_cons_zero, List.set_cons_succ]
                  rfl
                refine pure_ (i := 2) (N := some 41) (v := ?_) (a' := ?_) #[true, true, true, false, false, false, false, false, false, false, false, false, false, false] rfl rfl (by kernel_rfl) (fun _ _ _ h => h) (Or.inl ⟨by rfl, ?_⟩) ?_ ?_
                rotate_left
                · intro w'
                  go_simp
                  try (with_reducible rfl)
                rotate_left
                · simp only [Act.put, List.setIfInBounds_toArray, List.set_cons_zero, List.set_cons_succ]
                  rfl
                refine take_ (i := 3) (N := some 42) (v := ?_) (a' := ?_) #[true, true, true, true, false, false, false, false, false, false, false, false, false, false] rfl rfl (by kernel_rfl) (fun _ _ _ h => h) (Or.inl ⟨by rfl, ?_⟩) hS ?_ ?_
                rotate_left
                · intro w' hw; obtain ⟨ad2, e102, hy0, hy1, hy2, hy3, hy4⟩ := at_T33 (Kd.C_below HR1.out hw.1.1) xj z1 z2; cases e102; rw [HJ.out] at hy0 hy1 hy2 hy3 hy4
                  go_simp
                  try (with_reducible rfl)
                rotate_left
                · simp only [Act.put, List.setIfInBounds_toArray, List.set_cons_zero, List.set_cons_succ]
                  rfl
                refine take_ (i := 4) (N := some 43) (v := ?_) (a' := ?_) #[true, true, true, true, true, false, false, false, false, false, false, false, false, false] rfl rfl (by kernel_rfl) (fun _ _ _ h => h) (Or.inl ⟨by rfl, ?_⟩) hS ?_ ?_
                rotate_left
                · intro w' hw; have hc0 := hw.2.c0; have hc1 := hw.2.c1; have hc2 := hw.2.c2; have hc3 := hw.2.c3; have hc4 := hw.2.c4
                  go_simp
                  try (with_reducible rfl)
                rotate_left
                · simp only [Act.put, List.setIfInBounds_toArray, List.set_cons_zero, List.set_cons_succ]
                  rfl
                refine one_ (i := 5) (N := some 44) #[true, true, true, true, true, true, false, false, false, false, false, false, false, false] rfl rfl (by kernel_rfl) (by simp) (fun K hK => ?_)
                refine goes_ Try.func31 (by kernel_rfl) rfl #[.agg #[.int .i64 b.f0, .int .i64 b.f1, .int .i64 b.f2, .int .u64 b.f3, .int .u64 b.f4], .agg #[.int .i64 a.f0, .int .i64 a.f1, .int .i64 a.f2, .int .u64 a.f3, .int .u64 a.f4]] (by rfl) rfl rfl (by (try simp only [List.map_toArray, List.map_cons, List.map_nil]); first | done | rfl) ?_
                refine (order_clash.calls _ _ _ _ _ _ _ _ _ _ true _ HCL.out).mono ?_
                rintro e w' ⟨rfl, hbx⟩
                refine ⟨_, rfl, ?_⟩
                replace hS := Sr.next hS HW.out hbx
                refine hK.out _ _ hS (fun _ => ?_)
                clear hK K
                refine norm_ (a' := ?_) ?_ ?_
                rotate_left
                · simp only [Act.put, List.setIfInBounds_toArray, List.set_cons_zero, List.set_cons_succ]
                  rfl
                refine pure_ (i := 6) (N := some 45) (v := ?_) (a' := ?_) #[true, true, true, true, true, true, true, false, false, false, false, false, false, false] rfl rfl (by kernel_rfl) (fun _ _ _ h => h) (Or.inl ⟨by rfl, ?_⟩) ?_ ?_
                rotate_left
                · intro w'
                  go_simp
                  try (with_reducible rfl)
                rotate_left
                · simp only [Act.put, List.setIfInBounds_toArray, List.set_cons_zero, List.set_cons_succ]
                  rfl
                refine pure_ (i := 7) (N := some 46) (v := ?_) (a' := ?_) #[true, true, true, true, true, true, true, true, false, false, false, false, false, false] rfl rfl (by kernel_rfl) (fun _ _ _ h => h) (Or.inl ⟨by rfl, ?_⟩) ?_ ?_
                rotate_left
                · intro w'
                  go_simp
                  try (with_reducible rfl)
                rotate_left
                · simp only [Act.put, List.setIfInBounds_toArray, List.set_cons_zero, List.set_cons_succ]
                  rfl
                refine pure_ (i := 8) (N := some 47) (v := ?_) (a' := ?_) #[true, true, true, true, true, true, true, true, true, false, false, false, false, false] rfl rfl (by kernel_rfl) (fun _ _ _ h => h) (Or.inl ⟨by rfl, ?_⟩) ?_ ?_
                rotate_left
                · intro w'
                  go_simp
                  try (with_reducible rfl)
                rotate_left
                · simp only [Act.put, List.setIfInBounds_toArray, List.set_cons_zero, List.set_cons_succ]
                  rfl
                refine pure_ (i := 9) (N := some 48) (v := ?_) (a' := ?_) #[true, true, true, true, true, true, true, true, true, true, false, false, false, false] rfl rfl (by kernel_rfl) (fun _ _ _ h => h) (Or.inl ⟨by rfl, ?_⟩) ?_ ?_
                rotate_left
                · intro w'
                  go_simp
                  try (with_reducible rfl)
                rotate_left
                · simp only [Act.put, List.setIfInBounds_toArray, List.set_cons_zero, List.set_cons_succ]
                  rfl
                refine pure_ (i := 10) (N := some 49) (v := ?_) (a' := ?_) #[true, true, true, true, true, true, true, true, true, true, true, false, false, false] rfl rfl (by kernel_rfl) (fun _ _ _ h => h) (Or.inl ⟨by rfl, ?_⟩) ?_ ?_
                rotate_left
                · intro w'
                  go_simp
                  try (with_reducible rfl)
                rotate_left
                · simp only [Act.put, List.setIfInBounds_toArray, List.set_cons_zero, List.set_cons_succ]
                  rfl
                refine one_ (i := 11) (N := some 50) #[true, true, true, true, true, true, true, true, true, true, true, true, false, false] rfl rfl (by kernel_rfl) (by simp) (fun K hK => ?_)
                refine goes_ Try.func32 (by kernel_rfl) rfl #[.slice (some ad) l1.length c1, .slice (some ⟨go_, 0, none⟩) O.length co, .int .i64 (i : Int), .int .i64 xj] (by rfl) rfl rfl (by (try simp only [List.map_toArray, List.map_cons, List.map_nil]); first | done | rfl) ?_
                refine (order_behind.calls k _ _ l1 _ _ O _ _ bb _ (Kd.C_below HR1.out hS.1.1) HC1.out (Kd.R_reads' (Kd.R_below HV.out hS.1.2.1)).2.2 (Kd.R_reads' HV.out).2.1 HBH.out).mono ?_
                rintro e w' ⟨rfl, ⟨nd2, rfl⟩⟩
                refine ⟨_, rfl, ?_⟩
                replace hS := Sr.next hS HW.out (pw_below_drewN (Below.refl _ _) nd2)
                refine hK.out _ _ hS (fun _ => ?_)
                clear hK K
                refine norm_ (a' := ?_) ?_ ?_
                rotate_left
                · simp only [Act.put, List.setIfInBounds_toArray, List.set_cons_zero, List.set_cons_succ]
                  rfl
                refine pure_ (i := 12) (N := some 51) (v := ?_) (a' := ?_) #[true, true, true, true, true, true, true, true, true, true, true, true, true, false] rfl rfl (by kernel_rfl) (fun _ _ _ h => h) (Or.inl ⟨by rfl, ?_⟩) ?_ ?_
                rotate_left
                · intro w'
                  go_simp
                  try (with_reducible rfl)
                rotate_left
                · simp only [Act.put, List.setIfInBounds_toArray, List.set_cons_zero, List.set_cons_succ]
                  rfl
                refine pure_ (i := 13) (N := some 52) (v := ?_) (a' := ?_) #[true, true, true, true, true, true, true, true, true, true, true, true, true, true] rfl rfl (by kernel_rfl) (fun _ _ _ h => h) (Or.inl ⟨by rfl, ?_⟩) ?_ ?_
                rotate_left
                · intro w'
                  go_simp
                  try (with_reducible rfl)
                rotate_left
                · simp only [Act.put, List.setIfInBounds_toArray, List.set_cons_zero, List.set_cons_succ]
                  rfl
                refine done_ (by kernel_rfl) ?_
                cases bb with
                | true =>
                  have HN2 := HN.out
                  rw [if_pos rfl] at HN2
                  go_wp2
                  go_roundg g2
                  case measure => omega
                  case rel => exact ⟨m + 1, by omega, by omega, by first | rfl | (rw [wrap_succ m (by have := tch_len l1 i a.f2; rw [HTE.out] at this; omega)]), ⟨HN2⟩, ⟨hS⟩⟩
                | false =>
                  have HN2 := HN.out
                  rw [if_neg (by decide)] at HN2
                  obtain rfl := Option.some.inj HN2
                  have HR2 := HR.out
                  obtain ⟨rfl, rfl, rfl⟩ : r1 = xj ∧ r2 = (i : Int) ∧ r3 = true := by simpa [eq_comm] using HR2
                  go_wp2
                  go_ret3
                  exact ⟨rfl, hS.1.1⟩
            · have c2b : decide ((m : Int) < (T.length : Int)) = false := decide_eq_false (by omega)
              obtain rfl : m = T.length := by omega
              have H := HSC.out
              rw [List.drop_length] at H
              unfold order_Race.scan at H
              obtain rfl := Option.some.inj H
              clear H HSC
              go_upto_region 15 with (fail)
              have hD := Sr.next HSW.out HW.out (draw_below _)
              have HD := Aside0.mk hD
              clear hD
              have hnga : ∀ k, ((mv a.f2).getD (.slice none 0 0)).ownBlock = some k → w1.heap.size + 1 ≤ k ∧ k ≠ ga := fun k hk => ⟨((Kd.R_bound (HD.out.1.2.2.2.1 a.f2)).1 k hk).2.1, fun e => Kd.R_ne (HD.out.1.2.2.2.1 a.f2) HD.out.2 (by decide) (by rw [hk, e])⟩
              have HNG := Aside0.mk hnga
              have hHR := HR.out
              have HR2 := Aside0.mk (show order_Race.go k l1 O (l1.length - (i + 1)) (i + 1) = some (r1, r2, r3) from hHR)
              clear hnga hHR HR
              refine start_ (n := 11) (S := Sp w1.heap.size i mv ga a) (ds := [10]) #[false, false, false, false, false, false, false, false, false, false, false] (by kernel_rfl) rfl rfl ⟨HD.out.1.2.2.1, HD.out.2⟩ (fun hS => ?_)
              refine pure_ (i := 0) (N := some 56) (v := ?_) (a' := ?_) #[true, false, false, false, false, false, false, false, false, false, false] rfl rfl (by kernel_rfl) (fun _ _ _ h => h) (Or.inl ⟨by rfl, ?_⟩) ?_ ?_
              rotate_left
              · intro w'
                go_simp
                try (with_reducible rfl)
              rotate_left
              · simp only [Act.put, List.setIfInBounds_toArray, List.set_cons_zero, List.set_cons_succ]
                rfl
              refine pure_ (i := 1) (N := some 57) (v := ?_) (a' := ?_) #[true, true, false, false, false, false, false, false, false, false, false] rfl rfl (by kernel_rfl) (fun _ _ _ h => h) (Or.inl ⟨by rfl, ?_⟩) ?_ ?_
              rotate_left
              · intro w'
                go_simp
                try (with_reducible rfl)
              rotate_left
              · simp only [Act.put, List.setIfInBounds_toArray, List.set_cons_zero, List.set_cons_succ]
                rfl
              refine take_ (i := 2) (N := some 58) (v := ?_) (a' := ?_) #[true, true, true, false, false, false, false, false, false, false, false] rfl rfl (by kernel_rfl) (fun _ _ _ h => h) (Or.inl ⟨by rfl, ?_⟩) hS ?_ ?_
              rotate_left
              · intro w' hw; have hc2 := hw.2.c2
                go_simp
                try (with_reducible rfl)
              rotate_left
              · simp only [Act.put, List.setIfInBounds_toArray, List.set_cons_zero, List.set_cons_succ]
                rfl
              refine pure_ (i := 3) (N := some 59) (v := ?_) (a' := ?_) #[true, true, true, true, false, false, false, false, false, false, false] rfl rfl (by kernel_rfl) (fun _ _ _ h => h) (Or.inl ⟨by rfl, ?_⟩) ?_ ?_
              rotate_left
              · intro w'
                go_simp
                try (with_reducible rfl)
              rotate_left
              · simp only [Act.put, List.setIfInBounds_toArray, List.set_cons_zero, List.set_cons_succ]
                rfl
              refine pure_ (i := 4) (N := some 60) (v := ?_) (a' := ?_) #[true, true, true, true, true, false, false, false, false, false, false] rfl rfl (by kernel_rfl) (fun _ _ _ h => h) (Or.inl ⟨by rfl, ?_⟩) ?_ ?_
              rotate_left
              · intro w'
                go_simp
                try (with_reducible rfl)
              rotate_left
              · simp only [Act.put, List.setIfInBounds_toArray, List.set_cons_zero, List.set_cons_succ]
                rfl
              refine take_ (i := 5) (N := some 61) (v := ?_) (a' := ?_) #[true, true, true, true, true, true, false, false, false, false, false] rfl rfl (by kernel_rfl) (fun _ _ _ h => h) (Or.inl ⟨by rfl, ?_⟩) hS ?_ ?_
              rotate_left
              · intro w' hw; have hc2 := hw.2.c2
                go_simp
                try (with_reducible rfl)
              rotate_left
              · simp only [Act.put, List.setIfInBounds_toArray, List.set_cons_zero, List.set_cons_succ]
                rfl
              refine take_ (i := 6) (N := some 62) (a' := ?_) #[true, true, true, true, true, true, true, false, false, false, false] rfl rfl (by kernel_rfl) (fun _ _ _ h => h) (Or.inl ⟨by rfl, fun w' hw => MapIs.run_look w' (.tmp 59) (.tmp 61) 52 37 rfl Try.underlying3 Try.underlying52 (HL.out _) w1.heap.size i mv rfl hw.1 a.f2 rfl HKW.out⟩) hS ?_ ?_
              rotate_left
              · simp only [Act.put, List.setIfInBounds_toArray, List.set_cons_zero, List.set_cons_succ]
                rfl
              refine pure_ (i := 7) (N := some 63) (v := ?_) (a' := ?_) #[true, true, true, true, true, true, true, true, false, false, false] rfl rfl (by kernel_rfl) (fun _ _ _ h => h) (Or.inl ⟨by rfl, ?_⟩) ?_ ?_
              rotate_left
              · intro w'
                go_simp
                try (with_reducible rfl)
              rotate_left
              · simp only [Act.put, List.setIfInBounds_toArray, List.set_cons_zero, List.set_cons_succ]
                rfl
              generalize hve : (mv a.f2).getD (.slice none 0 0) = tv
              refine one_ (i := 8) (N := some 64) #[true, true, true, true, true, true, true, true, true, false, false] rfl rfl (by kernel_rfl) (by simp) (fun K hK => ?_)
              refine value_ (w1 := wr.drew.alloc (.cells #[.int .i64 (i : Int)] 3)) (v := .slice (some ⟨wr.drew.heap.size, 0, none⟩) 1 1) (by rfl) rfl (by first | (go_simp; done) | (go_simp; rfl)) ?_
              refine hK.out _ _ ⟨hS.1.move ((below_alloc (Below.refl _ _) _).block _ hS.1.lt), ((below_alloc (Below.refl _ _) _).block _ (lt_of_blk hS.2)).trans hS.2⟩ (fun hS => ?_)
              clear hK K
              refine norm_ (a' := ?_) ?_ ?_
              rotate_left
              · simp only [Act.put, List.setIfInBounds_toArray, List.set_cons_zero, List.set_cons_succ]
                rfl
              refine one_ (i := 9) (N := some 65) #[true, true, true, true, true, true, true, true, true, true, false] rfl rfl (by kernel_rfl) (by simp) (fun K hK => ?_)
              have hRx := HD.out.1.2.2.2.1 a.f2
              have hNG := HNG.out
              rw [hve] at hRx hNG
              refine Kd.R_append_step (Kd.int .i64) (w0 := wr.drew) (W := wr.drew) (w1.heap.size + 1) (by rfl) (.tmp 62) (.tmp 64) 37 3 (.int .i64 0) 8 rfl Try.underlying37 info3 rfl (by decide) (by decide) tv (tch l1 i a.f2) (i : Int) [.int .i64 (i : Int)] (fun k => (if wr.drew.heap.size ≤ k then a.f2 else tg k) = a.f2) (fun _ => False) rfl rfl rfl (fun _ h => h.elim) (fun k hk => if_pos hk) (Kd.R_mono (Kd.R_bound hRx) (fun k hk => by have := hk.2.2.1; show (if _ then _ else _) = _; rw [if_neg (by omega)]; exact hk.1)) (Below.refl _ _) HD.out.1.2.2.2.2 (by have := tch_len l1 i a.f2; omega) ?_
              intro v1 w4 hR4 hb4 hg4 hat4
              refine hK.out _ _ (Sp.kept (⟨HD.out.1.2.2.1, HD.out.2⟩ : Sp w1.heap.size i mv ga a wr.drew) hg4 (fun e => by have := (hNG _ e.symm).1; omega) (fun e => (hNG _ e.symm).2 rfl)) (fun hS => ?_)
              clear hK K
              refine norm_ (a' := ?_) ?_ ?_
              rotate_left
              · simp only [Act.put, List.setIfInBounds_toArray, List.set_cons_zero, List.set_cons_succ]
                rfl
              refine last_ (i := 10) (N := none) #[true, true, true, true, true, true, true, true, true, true, true] rfl rfl (by kernel_rfl) (by simp) (fun K hK => ?_)
              refine MapIs.put_step (by rfl) rfl w4 (.tmp 56) (.tmp 58) (.tmp 65) 52 37 rfl Try.underlying3 Try.underlying52 w1.heap.size i mv rfl hS.1 (by simp only [maxLen]; omega) a.f2 rfl HKW.out v1 rfl ?_
              intro w5 hm5 hg5
              refine hK.out _ _ ?_
              clear hK K
              refine done_ (by kernel_rfl) ?_
              have hRt := Rt.put (l := l1) HD.out.1 HW.out (by rw [HA.out]; exact hp) (by rw [HA.out]) (by rw [hve]; exact hg4) hR4 hm5 hg5
              go_wp2
              go_roundg g
              case measure => omega
              case rel => exact ⟨i + 1, _, _, by omega, by omega, by first | rfl | (rw [wrap_succ i (by omega)]), HR2, ⟨hRt⟩⟩
        · rw [if_neg hp] at H
          have hpb : order_plain.f a.f1 = some false := by rw [plain_is]; congr 1; exact Bool.eq_false_iff.2 (fun e => hp ((plainK_iff _).1 e))
          have HR := Aside0.mk H
          clear H
          have hx1' := HSa.out.2.c1
          go_wp2_with (first | (go_at_call 30; (with_reducible refine (order_plain.calls a.f1 false _ hpb).mono ?_); rintro e w2 ⟨rfl, ⟨nd, rfl⟩⟩))
          go_roundg g
          case measure => omega
          case rel => exact ⟨i + 1, mv, tg, by omega, by omega, by first | rfl | (rw [wrap_succ i (by omega)]), ⟨HR.out⟩, ⟨((Sr.next HSa.out HW.out (pw_below_drewN (Below.refl _ _) nd)).1).pass (by rw [HA.out]; exact hp)⟩⟩
      · have c1b : decide ((i : Int) < (l1.length : Int)) = false := decide_eq_false (by omega)
        obtain rfl : i = l1.length := by omega
        have H := HG.out
        rw [Nat.sub_self] at H
        unfold order_Race.go at H
        obtain ⟨rfl, rfl, rfl⟩ : r1 = 0 ∧ r2 = 0 ∧ r3 = false := by simpa [eq_comm] using H
        go_wp2
        go_ret3
        exact ⟨rfl, HI.out.1⟩

/-! ### sakialaw13_handed: function 29 -/
def sakialaw13_handed.f (a0 : Bool) : Option ((List (S33))) := (some (([(⟨0, 7, 5, 0, 0⟩ : S33), (⟨0, 2, 0, 0, 0⟩ : S33)] : List (S33)) : List (S33))).bind fun y139 => (if a0 = true then (if y139.length < 3518437208883 then ((some (y139 ++ [(⟨1, 1, 0, 0, 0⟩ : S33)] : List (S33))).bind fun y142 => (if y142.length < 3518437208883 then (some (y142 ++ [(⟨1, 6, 5, 0, 0⟩ : S33)])) else (none))) else (none)) else (if y139.length < 3518437208883 then (some (y139 ++ [(⟨1, 6, 5, 0, 0⟩ : S33)])) else (none)))
set_option maxHeartbeats 8000000 in
set_option maxRecDepth 100000 in
theorem sakialaw13_handed.calls (a0 : Bool) (r : List (S33)) (w : World) (h : sakialaw13_handed.f a0 = some r) :
    Calls Try.prog 29 #[.bool a0] w fun e w' => ∃ v0_ : Value, e = .returned (v0_) ∧ Kd.R k33 33 w' w.heap.size (fun _ => True) v0_ r ∧ Below w.heap.size w w' := by
  have hu33 := Try.underlying33
  have HB := Aside0.mk (Below.refl w.heap.size w)
  have H : ((some (([(⟨0, 7, 5, 0, 0⟩ : S33), (⟨0, 2, 0, 0, 0⟩ : S33)] : List (S33)) : List (S33))).bind fun y139 => (if a0 = true then (if y139.length < 3518437208883 then ((some (y139 ++ [(⟨1, 1, 0, 0, 0⟩ : S33)] : List (S33))).bind fun y142 => (if y142.length < 3518437208883 then (some (y142 ++ [(⟨1, 6, 5, 0, 0⟩ : S33)])) else (none))) else (none)) else (if y139.length < 3518437208883 then (some (y139 ++ [(⟨1, 6, 5, 0, 0⟩ : S33)])) else (none)))) = some r := h
  clear h
  obtain ⟨y139, hy139⟩ : ∃ y_ : List (S33), y_ = (([(⟨0, 7, 5, 0, 0⟩ : S33), (⟨0, 2, 0, 0, 0⟩ : S33)] : List (S33))) := ⟨_, rfl⟩
  replace H : (if a0 = true then (if y139.length < 3518437208883 then ((some (y139 ++ [(⟨1, 1, 0, 0, 0⟩ : S33)] : List (S33))).bind fun y142 => (if y142.length < 3518437208883 then (some (y142 ++ [(⟨1, 6, 5, 0, 0⟩ : S33)])) else (none))) else (none)) else (if y139.length < 3518437208883 then (some (y139 ++ [(⟨1, 6, 5, 0, 0⟩ : S33)])) else (none))) = some r := by first | (rw [hy139]; with_reducible exact H) | (have H2_ := (Option.bind_some _ _).symm.trans H; rw [hy139]; with_reducible exact H2_) | (have H2_ := (Option.bind_some _ _).symm.trans H; with_reducible exact H2_) | with_reducible exact H | (rw [hy139]; exact H) | exact H
  have Ny139 := Aside0.mk hy139
  clear hy139
  by_cases c2 : a0 = true
  · subst c2
    have H1 : (if y139.length < 3518437208883 then ((some (y139 ++ [(⟨1, 1, 0, 0, 0⟩ : S33)] : List (S33))).bind fun y142 => (if y142.length < 3518437208883 then (some (y142 ++ [(⟨1, 6, 5, 0, 0⟩ : S33)])) else (none))) else (none)) = some r := by rw [if_pos rfl] at H; exact H
    clear H
    have H := H1
    clear H1
    by_cases c3 : y139.length < 3518437208883
    rotate_left
    · rw [if_neg c3] at H
      exact absurd H (by simp)
    rw [if_pos c3] at H
    have LMc3 := Aside0.mk c3
    clear c3
    obtain ⟨y142, hy142⟩ : ∃ y_ : List (S33), y_ = (y139 ++ [(⟨1, 1, 0, 0, 0⟩ : S33)]) := ⟨_, rfl⟩
    replace H : (if y142.length < 3518437208883 then (some (y142 ++ [(⟨1, 6, 5, 0, 0⟩ : S33)])) else (none)) = some r := by first | (rw [hy142]; with_reducible exact H) | (have H2_ := (Option.bind_some _ _).symm.trans H; rw [hy142]; with_reducible exact H2_) | (have H2_ := (Option.bind_some _ _).symm.trans H; with_reducible exact H2_) | with_reducible exact H | (rw [hy142]; exact H) | exact H
    have Ny142 := Aside0.mk hy142
    clear hy142
    by_cases c4 : y142.length < 3518437208883
    rotate_left
    · rw [if_neg c4] at H
      exact absurd H (by simp)
    rw [if_pos c4] at H
    have LMc4 := Aside0.mk c4
    clear c4
    obtain ⟨y145, hy145⟩ : ∃ y_ : List (S33), y_ = (y142 ++ [(⟨1, 6, 5, 0, 0⟩ : S33)]) := ⟨_, rfl⟩
    replace H : (some y145) = some r := by first | (rw [hy145]; with_reducible exact H) | (have H2_ := (Option.bind_some _ _).symm.trans H; rw [hy145]; with_reducible exact H2_) | (have H2_ := (Option.bind_some _ _).symm.trans H; with_reducible exact H2_) | with_reducible exact H | (rw [hy145]; exact H) | exact H
    have Ny145 := Aside0.mk hy145
    clear hy145
    obtain rfl := Option.some.inj H
    go_enter Try.func29, Try.ntmps29
    go_wp2_with (first | ((with_reducible refine gate_dst (N := 6) rfl ?_); refine Kd.R_lit k33 _ 33 ?hg (N := 6) ?hd (xs := ([(⟨0, 7, 5, 0, 0⟩ : S33), (⟨0, 2, 0, 0, 0⟩ : S33)] : List (S33))) (inner := [.int .i64 0, .int .i64 7, .int .i64 5, .int .u64 0, .int .u64 0, .int .i64 0, .int .i64 2, .int .i64 0, .int .u64 0, .int .u64 0]) (ok := fun _ => True) (okp := fun _ => True) ?hr ?hp (fun _ hk => hk) trivial (Below.refl _ _) (Nat.le_refl _) (by simp) ?_; (case hd => rfl); (case hg => rfl); (case hr => first | (go_simp; done) | (go_simp; rfl)); (case hp => exact (Reps.c5 (show Kd.M k33 _ _ _ (⟨0, 7, 5, 0, 0⟩ : S33) [.int .i64 0, .int .i64 7, .int .i64 5, .int .u64 0, .int .u64 0] from (k33_mkM _ _ _ (⟨0, 7, 5, 0, 0⟩ : S33) )) (Reps.c5 (show Kd.M k33 _ _ _ (⟨0, 2, 0, 0, 0⟩ : S33) [.int .i64 0, .int .i64 2, .int .i64 0, .int .u64 0, .int .u64 0] from (k33_mkM _ _ _ (⟨0, 2, 0, 0, 0⟩ : S33) )) (Reps.none _ _)))); intro v140 w5 ho6 hb hg_ hnew_; clear hg_ hnew_; (first | rw [← Ny139.out] at ho6 | (simp only [Int.reduceToNat] at ho6; rw [← Ny139.out] at ho6)); have n0_ := Aside0.mk (Kd.R_lower ho6 (below_size (by repeat (first | (with_reducible first | exact HB.out | apply below_alloc | apply pw_below_drewN | apply below_drew1) | exact HB.out)))); have n1_ := Aside0.mk (below_step (by repeat (first | (with_reducible first | exact HB.out | apply below_alloc | apply pw_below_drewN | apply below_drew1) | exact HB.out)) hb); clear HB; have HO141 := n0_; have HB := n1_; clear n0_ n1_; clear hb ho6) | ((with_reducible refine gate_builtin (b := .append) (xs := #[.tmp 8, .tmp 10]) rfl ?_); at_builtin; refine Kd.R_append k33 (w0 := w) w.heap.size rfl (.tmp 8) (.tmp 10) 22 33 (.agg #[(.int .i64 0), (.int .i64 0), (.int .i64 0), (.int .u64 0), (.int .u64 0)]) 40 rfl Try.underlying22 info33 rfl (by decide) (by omega) v140 y139 (⟨1, 1, 0, 0, 0⟩ : S33) [.int .i64 1, .int .i64 1, .int .i64 0, .int .u64 0, .int .u64 0] (fun _ => True) (fun _ => False) rfl rfl ?aP (fun _ hk => hk.elim) ?aF ?aO ?aB ?aS ?aL ?_; (case aP => exact k33_mkM _ _ _ (⟨1, 1, 0, 0, 0⟩ : S33)); (case aB => exact (by repeat (first | (with_reducible first | exact HB.out | apply below_alloc | apply pw_below_drewN | apply below_drew1) | exact HB.out))); (case aF => exact (fun _ _ => trivial)); (case aO => exact (by (with_reducible repeat (first | apply Kd.R_alloc | apply Kd.R_drewN | apply Kd.R_drew)); exact HO141.out)); (case aS => exact (below_size (by repeat (first | (with_reducible first | exact HB.out | apply below_alloc | apply pw_below_drewN | apply below_drew1) | exact HB.out)))); (case aL => have := LMc3.out; omega); intro v143 w7 ho hb hg hat; rw [← Ny142.out] at ho; have n0_ := Aside0.mk (hb); have n1_ := Aside0.mk (ho); clear HB; clear HO141; have HB := n0_; have HO144 := n1_; clear n0_ n1_; clear ho hb hg hat) | ((with_reducible refine gate_builtin (b := .append) (xs := #[.tmp 12, .tmp 14]) rfl ?_); at_builtin; refine Kd.R_append k33 (w0 := w) w.heap.size rfl (.tmp 12) (.tmp 14) 22 33 (.agg #[(.int .i64 0), (.int .i64 0), (.int .i64 0), (.int .u64 0), (.int .u64 0)]) 40 rfl Try.underlying22 info33 rfl (by decide) (by omega) v143 y142 (⟨1, 6, 5, 0, 0⟩ : S33) [.int .i64 1, .int .i64 6, .int .i64 5, .int .u64 0, .int .u64 0] (fun _ => True) (fun _ => False) rfl rfl ?aP (fun _ hk => hk.elim) ?aF ?aO ?aB ?aS ?aL ?_; (case aP => exact k33_mkM _ _ _ (⟨1, 6, 5, 0, 0⟩ : S33)); (case aB => exact (by repeat (first | (with_reducible first | exact HB.out | apply below_alloc | apply pw_below_drewN | apply below_drew1) | exact HB.out))); (case aF => exact (fun _ _ => trivial)); (case aO => exact (by (with_reducible repeat (first | apply Kd.R_alloc | apply Kd.R_drewN | apply Kd.R_drew)); exact HO144.out)); (case aS => exact (below_size (by repeat (first | (with_reducible first | exact HB.out | apply below_alloc | apply pw_below_drewN | apply below_drew1) | exact HB.out)))); (case aL => have := LMc4.out; omega); intro v146 w8 ho hb hg hat; rw [← Ny145.out] at ho; have n0_ := Aside0.mk (hb); have n1_ := Aside0.mk (ho); clear HB; clear HO144; have HB := n0_; have HO147 := n1_; clear n0_ n1_; clear ho hb hg hat))
    go_ret
    exact ⟨_, by first | rfl | (simp [errW_none, errW_some] <;> rfl) | (simp [*, errW_none, errW_some] <;> rfl), by (with_reducible repeat (first | apply Kd.R_alloc | apply Kd.R_drewN | apply Kd.R_drew)); exact HO147.out, by repeat (first | (with_reducible first | exact HB.out | apply below_alloc | apply pw_below_drewN | apply below_drew1) | exact HB.out)⟩
  · replace c2 := Bool.eq_false_iff.mpr c2
    subst c2
    have H1 : (if y139.length < 3518437208883 then (some (y139 ++ [(⟨1, 6, 5, 0, 0⟩ : S33)])) else (none)) = some r := by rw [if_neg (show ¬ (false = true) by decide)] at H; exact H
    clear H
    have H := H1
    clear H1
    by_cases c9 : y139.length < 3518437208883
    rotate_left
    · rw [if_neg c9] at H
      exact absurd H (by simp)
    rw [if_pos c9] at H
    have LMc9 := Aside0.mk c9
    clear c9
    obtain ⟨y148, hy148⟩ : ∃ y_ : List (S33), y_ = (y139 ++ [(⟨1, 6, 5, 0, 0⟩ : S33)]) := ⟨_, rfl⟩
    replace H : (some y148) = some r := by first | (rw [hy148]; with_reducible exact H) | (have H2_ := (Option.bind_some _ _).symm.trans H; rw [hy148]; with_reducible exact H2_) | (have H2_ := (Option.bind_some _ _).symm.trans H; with_reducible exact H2_) | with_reducible exact H | (rw [hy148]; exact H) | exact H
    have Ny148 := Aside0.mk hy148
    clear hy148
    obtain rfl := Option.some.inj H
    go_enter Try.func29, Try.ntmps29
    go_wp2_with (first | ((with_reducible refine gate_dst (N := 6) rfl ?_); refine Kd.R_lit k33 _ 33 ?hg (N := 6) ?hd (xs := ([(⟨0, 7, 5, 0, 0⟩ : S33), (⟨0, 2, 0, 0, 0⟩ : S33)] : List (S33))) (inner := [.int .i64 0, .int .i64 7, .int .i64 5, .int .u64 0, .int .u64 0, .int .i64 0, .int .i64 2, .int .i64 0, .int .u64 0, .int .u64 0]) (ok := fun _ => True) (okp := fun _ => True) ?hr ?hp (fun _ hk => hk) trivial (Below.refl _ _) (Nat.le_refl _) (by simp) ?_; (case hd => rfl); (case hg => rfl); (case hr => first | (go_simp; done) | (go_simp; rfl)); (case hp => exact (Reps.c5 (show Kd.M k33 _ _ _ (⟨0, 7, 5, 0, 0⟩ : S33) [.int .i64 0, .int .i64 7, .int .i64 5, .int .u64 0, .int .u64 0] from (k33_mkM _ _ _ (⟨0, 7, 5, 0, 0⟩ : S33) )) (Reps.c5 (show Kd.M k33 _ _ _ (⟨0, 2, 0, 0, 0⟩ : S33) [.int .i64 0, .int .i64 2, .int .i64 0, .int .u64 0, .int .u64 0] from (k33_mkM _ _ _ (⟨0, 2, 0, 0, 0⟩ : S33) )) (Reps.none _ _)))); intro v140 w10 ho11 hb hg_ hnew_; clear hg_ hnew_; (first | rw [← Ny139.out] at ho11 | (simp only [Int.reduceToNat] at ho11; rw [← Ny139.out] at ho11)); have n0_ := Aside0.mk (Kd.R_lower ho11 (below_size (by repeat (first | (with_reducible first | exact HB.out | apply below_alloc | apply pw_below_drewN | apply below_drew1) | exact HB.out)))); have n1_ := Aside0.mk (below_step (by repeat (first | (with_reducible first | exact HB.out | apply below_alloc | apply pw_below_drewN | apply below_drew1) | exact HB.out)) hb); clear HB; have HO141 := n0_; have HB := n1_; clear n0_ n1_; clear hb ho11) | ((with_reducible refine gate_builtin (b := .append) (xs := #[.tmp 12, .tmp 14]) rfl ?_); at_builtin; refine Kd.R_append k33 (w0 := w) w.heap.size rfl (.tmp 12) (.tmp 14) 22 33 (.agg #[(.int .i64 0), (.int .i64 0), (.int .i64 0), (.int .u64 0), (.int .u64 0)]) 40 rfl Try.underlying22 info33 rfl (by decide) (by omega) v140 y139 (⟨1, 6, 5, 0, 0⟩ : S33) [.int .i64 1, .int .i64 6, .int .i64 5, .int .u64 0, .int .u64 0] (fun _ => True) (fun _ => False) rfl rfl ?aP (fun _ hk => hk.elim) ?aF ?aO ?aB ?aS ?aL ?_; (case aP => exact k33_mkM _ _ _ (⟨1, 6, 5, 0, 0⟩ : S33)); (case aB => exact (by repeat (first | (with_reducible first | exact HB.out | apply below_alloc | apply pw_below_drewN | apply below_drew1) | exact HB.out))); (case aF => exact (fun _ _ => trivial)); (case aO => exact (by (with_reducible repeat (first | apply Kd.R_alloc | apply Kd.R_drewN | apply Kd.R_drew)); exact HO141.out)); (case aS => exact (below_size (by repeat (first | (with_reducible first | exact HB.out | apply below_alloc | apply pw_below_drewN | apply below_drew1) | exact HB.out)))); (case aL => have := LMc9.out; omega); intro v149 w12 ho hb hg hat; rw [← Ny148.out] at ho; have n0_ := Aside0.mk (hb); have n1_ := Aside0.mk (ho); clear HB; clear HO141; have HB := n0_; have HO150 := n1_; clear n0_ n1_; clear ho hb hg hat))
    go_ret
    exact ⟨_, by first | rfl | (simp [errW_none, errW_some] <;> rfl) | (simp [*, errW_none, errW_some] <;> rfl), by (with_reducible repeat (first | apply Kd.R_alloc | apply Kd.R_drewN | apply Kd.R_drew)); exact HO150.out, by repeat (first | (with_reducible first | exact HB.out | apply below_alloc | apply pw_below_drewN | apply below_drew1) | exact HB.out)⟩

/-! ### sakialaw13_live: function 7 -/
def sakialaw13_live.f (k : Nat)  : Option (Bool) := (sakialaw13_handed.f true).bind fun t151 => ((order_Race.f k 2 t151).bind fun bt154 => ((sakialaw13_handed.f false).bind fun t157 => ((order_Race.f k 2 t157).bind fun bt160 => (if bt154.2.2 = true then (some false) else (if bt160.2.2 = true then (if bt160.1 = 0 then (some (bt160.2.1 == 2)) else (some false)) else (some false))))))
theorem sakialaw13_live.mono : ∀ k, LeO (sakialaw13_live.f k ) (sakialaw13_live.f (k + 1) ) := by
  intro  k
  unfold sakialaw13_live.f
  repeat' first
      | (with_reducible exact order_Race.mono _ _ _)
      | (with_reducible exact LeO.refl _)
      | (with_reducible exact LeO.none _)
      | (with_reducible refine LeO.ite ?_ ?_)
      | (with_reducible refine LeO.bind ?_ (fun _ => ?_))
      | exact order_Race.mono _ _ _
      | exact LeO.none _
      | refine LeO.ite ?_ ?_
      | refine LeO.bind ?_ (fun _ => ?_)
set_option maxHeartbeats 8000000 in
set_option maxRecDepth 100000 in
theorem sakialaw13_live.calls (k : Nat)  (r : Bool) (w : World) (h : sakialaw13_live.f k  = some r) :
    Calls Try.prog 7 #[] w fun e w' => e = .returned (.bool r) ∧ Below w.heap.size w w' := by
  have HB := Aside0.mk (Below.refl w.heap.size w)
  have H : ((sakialaw13_handed.f true).bind fun t151 => ((order_Race.f k 2 t151).bind fun bt154 => ((sakialaw13_handed.f false).bind fun t157 => ((order_Race.f k 2 t157).bind fun bt160 => (if bt154.2.2 = true then (some false) else (if bt160.2.2 = true then (if bt160.1 = 0 then (some (bt160.2.1 == 2)) else (some false)) else (some false))))))) = some r := h
  clear h
  replace H := Option.bind_eq_some_iff.mp H
  obtain ⟨t151, A10, H⟩ := H
  replace H : ((order_Race.f k 2 t151).bind fun bt154 => ((sakialaw13_handed.f false).bind fun t157 => ((order_Race.f k 2 t157).bind fun bt160 => (if bt154.2.2 = true then (some false) else (if bt160.2.2 = true then (if bt160.1 = 0 then (some (bt160.2.1 == 2)) else (some false)) else (some false)))))) = some r := H
  have A1 := Aside0.mk A10
  clear A10
  replace H := Option.bind_eq_some_iff.mp H
  obtain ⟨⟨t154, t155, t156⟩, A20, H⟩ := H
  replace H : ((sakialaw13_handed.f false).bind fun t157 => ((order_Race.f k 2 t157).bind fun bt160 => (if t156 = true then (some false) else (if bt160.2.2 = true then (if bt160.1 = 0 then (some (bt160.2.1 == 2)) else (some false)) else (some false))))) = some r := H
  have A2 := Aside0.mk A20
  clear A20
  replace H := Option.bind_eq_some_iff.mp H
  obtain ⟨t157, A30, H⟩ := H
  replace H : ((order_Race.f k 2 t157).bind fun bt160 => (if t156 = true then (some false) else (if bt160.2.2 = true then (if bt160.1 = 0 then (some (bt160.2.1 == 2)) else (some false)) else (some false)))) = some r := H
  have A3 := Aside0.mk A30
  clear A30
  replace H := Option.bind_eq_some_iff.mp H
  obtain ⟨⟨t160, t161, t162⟩, A40, H⟩ := H
  replace H : (if t156 = true then (some false) else (if t162 = true then (if t160 = 0 then (some (t161 == 2)) else (some false)) else (some false))) = some r := H
  have A4 := Aside0.mk A40
  clear A40
  by_cases c5 : t156 = true
  · subst c5
    have H1 : (some false) = some r := by rw [if_pos rfl] at H; exact H
    clear H
    have H := H1
    clear H1
    obtain rfl := Option.some.inj H
    go_enter Try.func7, Try.ntmps7
    go_wp2_with (first | ((with_reducible refine gate_callee (f := 29) rfl ?_); refine goesL_ (some 8) rfl rfl Try.func29 (by kernel_rfl) rfl #[.bool true] rfl (by (try simp only [List.map_toArray, List.map_cons, List.map_nil]); first | done | rfl | (simp only [List.length_drop, List.length_take]; rfl)) ?_; (with_reducible refine (sakialaw13_handed.calls true t151 _ A1.out).mono ?_); rintro e w6 ⟨v152, rfl, ho0, hb⟩; refine ⟨_, rfl, ?_⟩; have n0_ := Aside0.mk (Kd.R_lower ho0 (below_size (by repeat (first | (with_reducible first | exact HB.out | apply below_alloc | apply pw_below_drewN | apply below_drew1) | exact HB.out)))); have n1_ := Aside0.mk (below_step (by repeat (first | (with_reducible first | exact HB.out | apply below_alloc | apply pw_below_drewN | apply below_drew1) | exact HB.out)) hb); clear HB; have HO153 := n0_; have HB := n1_; clear n0_ n1_; (try clear hb); (try clear hb2); (try clear hk); (try clear hi); (try clear ho0); obtain ⟨Ao7, co7, eo7⟩ := Kd.R_slice HO153.out; subst eo7) | ((with_reducible refine gate_callee (f := 8) rfl ?_); refine goesL_ (some 9) rfl rfl Try.func8 (by kernel_rfl) rfl #[.int .i64 2, .slice Ao7 t151.length co7] rfl (by (try simp only [List.map_toArray, List.map_cons, List.map_nil]); first | done | rfl | (simp only [List.length_drop, List.length_take]; rfl)) ?_; (with_reducible refine (order_Race.calls k 2 _ _ t151 t154 t155 true _ ?side1 ?side2 A2.out).mono ?_); (case side1 => repeat (first | exact (Kd.R_reads' HO153.out).2.2 | (with_reducible refine Kd.C_alloc ?_ _) | (with_reducible refine Kd.C_drewN ?_ _) | (with_reducible refine Kd.C_drew ?_))); (case side2 => exact (Kd.R_reads' HO153.out).2.1); rintro e w8 ⟨rfl, hb⟩; refine ⟨_, rfl, ?_⟩; have n0_ := Aside0.mk (Kd.R_below (by (with_reducible repeat (first | apply Kd.R_alloc | apply Kd.R_drewN | apply Kd.R_drew)); exact HO153.out) hb); have n1_ := Aside0.mk (below_step (by repeat (first | (with_reducible first | exact HB.out | apply below_alloc | apply pw_below_drewN | apply below_drew1) | exact HB.out)) hb); clear HO153; clear HB; have HO153 := n0_; have HB := n1_; clear n0_ n1_; (try clear hb); (try clear hb2); (try clear hk); (try clear hi)) | ((with_reducible refine gate_callee (f := 29) rfl ?_); refine goesL_ (some 14) rfl rfl Try.func29 (by kernel_rfl) rfl #[.bool false] rfl (by (try simp only [List.map_toArray, List.map_cons, List.map_nil]); first | done | rfl | (simp only [List.length_drop, List.length_take]; rfl)) ?_; (with_reducible refine (sakialaw13_handed.calls false t157 _ A3.out).mono ?_); rintro e w9 ⟨v158, rfl, ho0, hb⟩; refine ⟨_, rfl, ?_⟩; have n0_ := Aside0.mk (Kd.R_elder' (by (with_reducible repeat (first | apply Kd.R_alloc | apply Kd.R_drewN | apply Kd.R_drew)); exact HO153.out) (Kd.R_base ho0) hb); have n1_ := Aside0.mk (Kd.R_lower (Kd.R_new' ho0 (Kd.R_lt (by (with_reducible repeat (first | apply Kd.R_alloc | apply Kd.R_drewN | apply Kd.R_drew)); exact HO153.out))) (below_size (by repeat (first | (with_reducible first | exact HB.out | apply below_alloc | apply pw_below_drewN | apply below_drew1) | exact HB.out)))); have n2_ := Aside0.mk (below_step (by repeat (first | (with_reducible first | exact HB.out | apply below_alloc | apply pw_below_drewN | apply below_drew1) | exact HB.out)) hb); clear HO153; clear HB; have HO153 := n0_; have HO159 := n1_; have HB := n2_; clear n0_ n1_ n2_; (try clear hb); (try clear hb2); (try clear hk); (try clear hi); (try clear ho0); obtain ⟨Ao10, co10, eo10⟩ := Kd.R_slice HO159.out; subst eo10) | ((with_reducible refine gate_callee (f := 8) rfl ?_); refine goesL_ (some 15) rfl rfl Try.func8 (by kernel_rfl) rfl #[.int .i64 2, .slice Ao10 t157.length co10] rfl (by (try simp only [List.map_toArray, List.map_cons, List.map_nil]); first | done | rfl | (simp only [List.length_drop, List.length_take]; rfl)) ?_; (with_reducible refine (order_Race.calls k 2 _ _ t157 t160 t161 t162 _ ?side1 ?side2 A4.out).mono ?_); (case side1 => repeat (first | exact (Kd.R_reads' HO159.out).2.2 | (with_reducible refine Kd.C_alloc ?_ _) | (with_reducible refine Kd.C_drewN ?_ _) | (with_reducible refine Kd.C_drew ?_))); (case side2 => exact (Kd.R_reads' HO159.out).2.1); rintro e w11 ⟨rfl, hb⟩; refine ⟨_, rfl, ?_⟩; have n0_ := Aside0.mk (Kd.R_below (by (with_reducible repeat (first | apply Kd.R_alloc | apply Kd.R_drewN | apply Kd.R_drew)); exact HO153.out) hb); have n1_ := Aside0.mk (Kd.R_below (by (with_reducible repeat (first | apply Kd.R_alloc | apply Kd.R_drewN | apply Kd.R_drew)); exact HO159.out) hb); have n2_ := Aside0.mk (below_step (by repeat (first | (with_reducible first | exact HB.out | apply below_alloc | apply pw_below_drewN | apply below_drew1) | exact HB.out)) hb); clear HO153; clear HO159; clear HB; have HO153 := n0_; have HO159 := n1_; have HB := n2_; clear n0_ n1_ n2_; (try clear hb); (try clear hb2); (try clear hk); (try clear hi)))
    go_ret
    exact ⟨by first | rfl | (simp [errW_none, errW_some] <;> rfl) | (simp [*, errW_none, errW_some] <;> rfl), by repeat (first | (with_reducible first | exact HB.out | apply below_alloc | apply pw_below_drewN | apply below_drew1) | exact HB.out)⟩
  · replace c5 := Bool.eq_false_iff.mpr c5
    subst c5
    have H1 : (if t162 = true then (if t160 = 0 then (some (t161 == 2)) else (some false)) else (some false)) = some r := by rw [if_neg (show ¬ (false = true) by decide)] at H; exact H
    clear H
    have H := H1
    clear H1
    by_cases c12 : t162 = true
    · subst c12
      have H1 : (if t160 = 0 then (some (t161 == 2)) else (some false)) = some r := by rw [if_pos rfl] at H; exact H
      clear H
      have H := H1
      clear H1
      by_cases c13 : t160 = 0
      · rw [if_pos c13] at H
        have c13b0 : (t160 == 0) = true := beq_iff_eq.mpr c13
        have c13b1 : (t160 != 0) = false := bne_eq_false_iff_eq.mpr c13
        clear c13
        obtain rfl := Option.some.inj H
        go_enter Try.func7, Try.ntmps7
        go_wp2_with (first | ((with_reducible refine gate_callee (f := 29) rfl ?_); refine goesL_ (some 8) rfl rfl Try.func29 (by kernel_rfl) rfl #[.bool true] rfl (by (try simp only [List.map_toArray, List.map_cons, List.map_nil]); first | done | rfl | (simp only [List.length_drop, List.length_take]; rfl)) ?_; (with_reducible refine (sakialaw13_handed.calls true t151 _ A1.out).mono ?_); rintro e w14 ⟨v152, rfl, ho0, hb⟩; refine ⟨_, rfl, ?_⟩; have n0_ := Aside0.mk (Kd.R_lower ho0 (below_size (by repeat (first | (with_reducible first | exact HB.out | apply below_alloc | apply pw_below_drewN | apply below_drew1) | exact HB.out)))); have n1_ := Aside0.mk (below_step (by repeat (first | (with_reducible first | exact HB.out | apply below_alloc | apply pw_below_drewN | apply below_drew1) | exact HB.out)) hb); clear HB; have HO153 := n0_; have HB := n1_; clear n0_ n1_; (try clear hb); (try clear hb2); (try clear hk); (try clear hi); (try clear ho0); obtain ⟨Ao15, co15, eo15⟩ := Kd.R_slice HO153.out; subst eo15) | ((with_reducible refine gate_callee (f := 8) rfl ?_); refine goesL_ (some 9) rfl rfl Try.func8 (by kernel_rfl) rfl #[.int .i64 2, .slice Ao15 t151.length co15] rfl (by (try simp only [List.map_toArray, List.map_cons, List.map_nil]); first | done | rfl | (simp only [List.length_drop, List.length_take]; rfl)) ?_; (with_reducible refine (order_Race.calls k 2 _ _ t151 t154 t155 false _ ?side1 ?side2 A2.out).mono ?_); (case side1 => repeat (first | exact (Kd.R_reads' HO153.out).2.2 | (with_reducible refine Kd.C_alloc ?_ _) | (with_reducible refine Kd.C_drewN ?_ _) | (with_reducible refine Kd.C_drew ?_))); (case side2 => exact (Kd.R_reads' HO153.out).2.1); rintro e w16 ⟨rfl, hb⟩; refine ⟨_, rfl, ?_⟩; have n0_ := Aside0.mk (Kd.R_below (by (with_reducible repeat (first | apply Kd.R_alloc | apply Kd.R_drewN | apply Kd.R_drew)); exact HO153.out) hb); have n1_ := Aside0.mk (below_step (by repeat (first | (with_reducible first | exact HB.out | apply below_alloc | apply pw_below_drewN | apply below_drew1) | exact HB.out)) hb); clear HO153; clear HB; have HO153 := n0_; have HB := n1_; clear n0_ n1_; (try clear hb); (try clear hb2); (try clear hk); (try clear hi)) | ((with_reducible refine gate_callee (f := 29) rfl ?_); refine goesL_ (some 14) rfl rfl Try.func29 (by kernel_rfl) rfl #[.bool false] rfl (by (try simp only [List.map_toArray, List.map_cons, List.map_nil]); first | done | rfl | (simp only [List.length_drop, List.length_take]; rfl)) ?_; (with_reducible refine (sakialaw13_handed.calls false t157 _ A3.out).mono ?_); rintro e w17 ⟨v158, rfl, ho0, hb⟩; refine ⟨_, rfl, ?_⟩; have n0_ := Aside0.mk (Kd.R_elder' (by (with_reducible repeat (first | apply Kd.R_alloc | apply Kd.R_drewN | apply Kd.R_drew)); exact HO153.out) (Kd.R_base ho0) hb); have n1_ := Aside0.mk (Kd.R_lower (Kd.R_new' ho0 (Kd.R_lt (by (with_reducible repeat (first | apply Kd.R_alloc | apply Kd.R_drewN | apply Kd.R_drew)); exact HO153.out))) (below_size (by repeat (first | (with_reducible first | exact HB.out | apply below_alloc | apply pw_below_drewN | apply below_drew1) | exact HB.out)))); have n2_ := Aside0.mk (below_step (by repeat (first | (with_reducible first | exact HB.out | apply below_alloc | apply pw_below_drewN | apply below_drew1) | exact HB.out)) hb); clear HO153; clear HB; have HO153 := n0_; have HO159 := n1_; have HB := n2_; clear n0_ n1_ n2_; (try clear hb); (try clear hb2); (try clear hk); (try clear hi); (try clear ho0); obtain ⟨Ao18, co18, eo18⟩ := Kd.R_slice HO159.out; subst eo18) | ((with_reducible refine gate_callee (f := 8) rfl ?_); refine goesL_ (some 15) rfl rfl Try.func8 (by kernel_rfl) rfl #[.int .i64 2, .slice Ao18 t157.length co18] rfl (by (try simp only [List.map_toArray, List.map_cons, List.map_nil]); first | done | rfl | (simp only [List.length_drop, List.length_take]; rfl)) ?_; (with_reducible refine (order_Race.calls k 2 _ _ t157 t160 t161 true _ ?side1 ?side2 A4.out).mono ?_); (case side1 => repeat (first | exact (Kd.R_reads' HO159.out).2.2 | (with_reducible refine Kd.C_alloc ?_ _) | (with_reducible refine Kd.C_drewN ?_ _) | (with_reducible refine Kd.C_drew ?_))); (case side2 => exact (Kd.R_reads' HO159.out).2.1); rintro e w19 ⟨rfl, hb⟩; refine ⟨_, rfl, ?_⟩; have n0_ := Aside0.mk (Kd.R_below (by (with_reducible repeat (first | apply Kd.R_alloc | apply Kd.R_drewN | apply Kd.R_drew)); exact HO153.out) hb); have n1_ := Aside0.mk (Kd.R_below (by (with_reducible repeat (first | apply Kd.R_alloc | apply Kd.R_drewN | apply Kd.R_drew)); exact HO159.out) hb); have n2_ := Aside0.mk (below_step (by repeat (first | (with_reducible first | exact HB.out | apply below_alloc | apply pw_below_drewN | apply below_drew1) | exact HB.out)) hb); clear HO153; clear HO159; clear HB; have HO153 := n0_; have HO159 := n1_; have HB := n2_; clear n0_ n1_ n2_; (try clear hb); (try clear hb2); (try clear hk); (try clear hi)))
        go_ret
        exact ⟨by first | rfl | (simp [errW_none, errW_some] <;> rfl) | (simp [*, errW_none, errW_some] <;> rfl), by repeat (first | (with_reducible first | exact HB.out | apply below_alloc | apply pw_below_drewN | apply below_drew1) | exact HB.out)⟩
      · rw [if_neg c13] at H
        have c13b0 : (t160 == 0) = false := beq_eq_false_iff_ne.mpr c13
        have c13b1 : (t160 != 0) = true := bne_iff_ne.mpr c13
        obtain rfl := Option.some.inj H
        go_enter Try.func7, Try.ntmps7
        go_wp2_with (first | ((with_reducible refine gate_callee (f := 29) rfl ?_); refine goesL_ (some 8) rfl rfl Try.func29 (by kernel_rfl) rfl #[.bool true] rfl (by (try simp only [List.map_toArray, List.map_cons, List.map_nil]); first | done | rfl | (simp only [List.length_drop, List.length_take]; rfl)) ?_; (with_reducible refine (sakialaw13_handed.calls true t151 _ A1.out).mono ?_); rintro e w20 ⟨v152, rfl, ho0, hb⟩; refine ⟨_, rfl, ?_⟩; have n0_ := Aside0.mk (Kd.R_lower ho0 (below_size (by repeat (first | (with_reducible first | exact HB.out | apply below_alloc | apply pw_below_drewN | apply below_drew1) | exact HB.out)))); have n1_ := Aside0.mk (below_step (by repeat (first | (with_reducible first | exact HB.out | apply below_alloc | apply pw_below_drewN | apply below_drew1) | exact HB.out)) hb); clear HB; have HO153 := n0_; have HB := n1_; clear n0_ n1_; (try clear hb); (try clear hb2); (try clear hk); (try clear hi); (try clear ho0); obtain ⟨Ao21, co21, eo21⟩ := Kd.R_slice HO153.out; subst eo21) | ((with_reducible refine gate_callee (f := 8) rfl ?_); refine goesL_ (some 9) rfl rfl Try.func8 (by kernel_rfl) rfl #[.int .i64 2, .slice Ao21 t151.length co21] rfl (by (try simp only [List.map_toArray, List.map_cons, List.map_nil]); first | done | rfl | (simp only [List.length_drop, List.length_take]; rfl)) ?_; (with_reducible refine (order_Race.calls k 2 _ _ t151 t154 t155 false _ ?side1 ?side2 A2.out).mono ?_); (case side1 => repeat (first | exact (Kd.R_reads' HO153.out).2.2 | (with_reducible refine Kd.C_alloc ?_ _) | (with_reducible refine Kd.C_drewN ?_ _) | (with_reducible refine Kd.C_drew ?_))); (case side2 => exact (Kd.R_reads' HO153.out).2.1); rintro e w22 ⟨rfl, hb⟩; refine ⟨_, rfl, ?_⟩; have n0_ := Aside0.mk (Kd.R_below (by (with_reducible repeat (first | apply Kd.R_alloc | apply Kd.R_drewN | apply Kd.R_drew)); exact HO153.out) hb); have n1_ := Aside0.mk (below_step (by repeat (first | (with_reducible first | exact HB.out | apply below_alloc | apply pw_below_drewN | apply below_drew1) | exact HB.out)) hb); clear HO153; clear HB; have HO153 := n0_; have HB := n1_; clear n0_ n1_; (try clear hb); (try clear hb2); (try clear hk); (try clear hi)) | ((with_reducible refine gate_callee (f := 29) rfl ?_); refine goesL_ (some 14) rfl rfl Try.func29 (by kernel_rfl) rfl #[.bool false] rfl (by (try simp only [List.map_toArray, List.map_cons, List.map_nil]); first | done | rfl | (simp only [List.length_drop, List.length_take]; rfl)) ?_; (with_reducible refine (sakialaw13_handed.calls false t157 _ A3.out).mono ?_); rintro e w23 ⟨v158, rfl, ho0, hb⟩; refine ⟨_, rfl, ?_⟩; have n0_ := Aside0.mk (Kd.R_elder' (by (with_reducible repeat (first | apply Kd.R_alloc | apply Kd.R_drewN | apply Kd.R_drew)); exact HO153.out) (Kd.R_base ho0) hb); have n1_ := Aside0.mk (Kd.R_lower (Kd.R_new' ho0 (Kd.R_lt (by (with_reducible repeat (first | apply Kd.R_alloc | apply Kd.R_drewN | apply Kd.R_drew)); exact HO153.out))) (below_size (by repeat (first | (with_reducible first | exact HB.out | apply below_alloc | apply pw_below_drewN | apply below_drew1) | exact HB.out)))); have n2_ := Aside0.mk (below_step (by repeat (first | (with_reducible first | exact HB.out | apply below_alloc | apply pw_below_drewN | apply below_drew1) | exact HB.out)) hb); clear HO153; clear HB; have HO153 := n0_; have HO159 := n1_; have HB := n2_; clear n0_ n1_ n2_; (try clear hb); (try clear hb2); (try clear hk); (try clear hi); (try clear ho0); obtain ⟨Ao24, co24, eo24⟩ := Kd.R_slice HO159.out; subst eo24) | ((with_reducible refine gate_callee (f := 8) rfl ?_); refine goesL_ (some 15) rfl rfl Try.func8 (by kernel_rfl) rfl #[.int .i64 2, .slice Ao24 t157.length co24] rfl (by (try simp only [List.map_toArray, List.map_cons, List.map_nil]); first | done | rfl | (simp only [List.length_drop, List.length_take]; rfl)) ?_; (with_reducible refine (order_Race.calls k 2 _ _ t157 t160 t161 true _ ?side1 ?side2 A4.out).mono ?_); (case side1 => repeat (first | exact (Kd.R_reads' HO159.out).2.2 | (with_reducible refine Kd.C_alloc ?_ _) | (with_reducible refine Kd.C_drewN ?_ _) | (with_reducible refine Kd.C_drew ?_))); (case side2 => exact (Kd.R_reads' HO159.out).2.1); rintro e w25 ⟨rfl, hb⟩; refine ⟨_, rfl, ?_⟩; have n0_ := Aside0.mk (Kd.R_below (by (with_reducible repeat (first | apply Kd.R_alloc | apply Kd.R_drewN | apply Kd.R_drew)); exact HO153.out) hb); have n1_ := Aside0.mk (Kd.R_below (by (with_reducible repeat (first | apply Kd.R_alloc | apply Kd.R_drewN | apply Kd.R_drew)); exact HO159.out) hb); have n2_ := Aside0.mk (below_step (by repeat (first | (with_reducible first | exact HB.out | apply below_alloc | apply pw_below_drewN | apply below_drew1) | exact HB.out)) hb); clear HO153; clear HO159; clear HB; have HO153 := n0_; have HO159 := n1_; have HB := n2_; clear n0_ n1_ n2_; (try clear hb); (try clear hb2); (try clear hk); (try clear hi)))
        go_ret
        exact ⟨by first | rfl | (simp [errW_none, errW_some] <;> rfl) | (simp [*, errW_none, errW_some] <;> rfl), by repeat (first | (with_reducible first | exact HB.out | apply below_alloc | apply pw_below_drewN | apply below_drew1) | exact HB.out)⟩
    · replace c12 := Bool.eq_false_iff.mpr c12
      subst c12
      have H1 : (some false) = some r := by rw [if_neg (show ¬ (false = true) by decide)] at H; exact H
      clear H
      have H := H1
      clear H1
      obtain rfl := Option.some.inj H
      go_enter Try.func7, Try.ntmps7
      go_wp2_with (first | ((with_reducible refine gate_callee (f := 29) rfl ?_); refine goesL_ (some 8) rfl rfl Try.func29 (by kernel_rfl) rfl #[.bool true] rfl (by (try simp only [List.map_toArray, List.map_cons, List.map_nil]); first | done | rfl | (simp only [List.length_drop, List.length_take]; rfl)) ?_; (with_reducible refine (sakialaw13_handed.calls true t151 _ A1.out).mono ?_); rintro e w26 ⟨v152, rfl, ho0, hb⟩; refine ⟨_, rfl, ?_⟩; have n0_ := Aside0.mk (Kd.R_lower ho0 (below_size (by repeat (first | (with_reducible first | exact HB.out | apply below_alloc | apply pw_below_drewN | apply below_drew1) | exact HB.out)))); have n1_ := Aside0.mk (below_step (by repeat (first | (with_reducible first | exact HB.out | apply below_alloc | apply pw_below_drewN | apply below_drew1) | exact HB.out)) hb); clear HB; have HO153 := n0_; have HB := n1_; clear n0_ n1_; (try clear hb); (try clear hb2); (try clear hk); (try clear hi); (try clear ho0); obtain ⟨Ao27, co27, eo27⟩ := Kd.R_slice HO153.out; subst eo27) | ((with_reducible refine gate_callee (f := 8) rfl ?_); refine goesL_ (some 9) rfl rfl Try.func8 (by kernel_rfl) rfl #[.int .i64 2, .slice Ao27 t151.length co27] rfl (by (try simp only [List.map_toArray, List.map_cons, List.map_nil]); first | done | rfl | (simp only [List.length_drop, List.length_take]; rfl)) ?_; (with_reducible refine (order_Race.calls k 2 _ _ t151 t154 t155 false _ ?side1 ?side2 A2.out).mono ?_); (case side1 => repeat (first | exact (Kd.R_reads' HO153.out).2.2 | (with_reducible refine Kd.C_alloc ?_ _) | (with_reducible refine Kd.C_drewN ?_ _) | (with_reducible refine Kd.C_drew ?_))); (case side2 => exact (Kd.R_reads' HO153.out).2.1); rintro e w28 ⟨rfl, hb⟩; refine ⟨_, rfl, ?_⟩; have n0_ := Aside0.mk (Kd.R_below (by (with_reducible repeat (first | apply Kd.R_alloc | apply Kd.R_drewN | apply Kd.R_drew)); exact HO153.out) hb); have n1_ := Aside0.mk (below_step (by repeat (first | (with_reducible first | exact HB.out | apply below_alloc | apply pw_below_drewN | apply below_drew1) | exact HB.out)) hb); clear HO153; clear HB; have HO153 := n0_; have HB := n1_; clear n0_ n1_; (try clear hb); (try clear hb2); (try clear hk); (try clear hi)) | ((with_reducible refine gate_callee (f := 29) rfl ?_); refine goesL_ (some 14) rfl rfl Try.func29 (by kernel_rfl) rfl #[.bool false] rfl (by (try simp only [List.map_toArray, List.map_cons, List.map_nil]); first | done | rfl | (simp only [List.length_drop, List.length_take]; rfl)) ?_; (with_reducible refine (sakialaw13_handed.calls false t157 _ A3.out).mono ?_); rintro e w29 ⟨v158, rfl, ho0, hb⟩; refine ⟨_, rfl, ?_⟩; have n0_ := Aside0.mk (Kd.R_elder' (by (with_reducible repeat (first | apply Kd.R_alloc | apply Kd.R_drewN | apply Kd.R_drew)); exact HO153.out) (Kd.R_base ho0) hb); have n1_ := Aside0.mk (Kd.R_lower (Kd.R_new' ho0 (Kd.R_lt (by (with_reducible repeat (first | apply Kd.R_alloc | apply Kd.R_drewN | apply Kd.R_drew)); exact HO153.out))) (below_size (by repeat (first | (with_reducible first | exact HB.out | apply below_alloc | apply pw_below_drewN | apply below_drew1) | exact HB.out)))); have n2_ := Aside0.mk (below_step (by repeat (first | (with_reducible first | exact HB.out | apply below_alloc | apply pw_below_drewN | apply below_drew1) | exact HB.out)) hb); clear HO153; clear HB; have HO153 := n0_; have HO159 := n1_; have HB := n2_; clear n0_ n1_ n2_; (try clear hb); (try clear hb2); (try clear hk); (try clear hi); (try clear ho0); obtain ⟨Ao30, co30, eo30⟩ := Kd.R_slice HO159.out; subst eo30) | ((with_reducible refine gate_callee (f := 8) rfl ?_); refine goesL_ (some 15) rfl rfl Try.func8 (by kernel_rfl) rfl #[.int .i64 2, .slice Ao30 t157.length co30] rfl (by (try simp only [List.map_toArray, List.map_cons, List.map_nil]); first | done | rfl | (simp only [List.length_drop, List.length_take]; rfl)) ?_; (with_reducible refine (order_Race.calls k 2 _ _ t157 t160 t161 false _ ?side1 ?side2 A4.out).mono ?_); (case side1 => repeat (first | exact (Kd.R_reads' HO159.out).2.2 | (with_reducible refine Kd.C_alloc ?_ _) | (with_reducible refine Kd.C_drewN ?_ _) | (with_reducible refine Kd.C_drew ?_))); (case side2 => exact (Kd.R_reads' HO159.out).2.1); rintro e w31 ⟨rfl, hb⟩; refine ⟨_, rfl, ?_⟩; have n0_ := Aside0.mk (Kd.R_below (by (with_reducible repeat (first | apply Kd.R_alloc | apply Kd.R_drewN | apply Kd.R_drew)); exact HO153.out) hb); have n1_ := Aside0.mk (Kd.R_below (by (with_reducible repeat (first | apply Kd.R_alloc | apply Kd.R_drewN | apply Kd.R_drew)); exact HO159.out) hb); have n2_ := Aside0.mk (below_step (by repeat (first | (with_reducible first | exact HB.out | apply below_alloc | apply pw_below_drewN | apply below_drew1) | exact HB.out)) hb); clear HO153; clear HO159; clear HB; have HO153 := n0_; have HO159 := n1_; have HB := n2_; clear n0_ n1_ n2_; (try clear hb); (try clear hb2); (try clear hk); (try clear hi)))
      go_ret
      exact ⟨by first | rfl | (simp [errW_none, errW_some] <;> rfl) | (simp [*, errW_none, errW_some] <;> rfl), by repeat (first | (with_reducible first | exact HB.out | apply below_alloc | apply pw_below_drewN | apply below_drew1) | exact HB.out)⟩

end Go.Proofs.Yteahmcfinijmdaa.QOrderTells
