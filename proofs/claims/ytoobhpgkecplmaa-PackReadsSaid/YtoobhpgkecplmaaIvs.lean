/- Lemmas: a region that draws its order, walked by what holds whatever has come up. No conditions but those that the theorems name. -/
import Derived.Test.YtoobhpgkecplmaaWMore
import Derived.Test.YtoobhpgkecplmaaWLast
import Derived.Laws.IdiomCopy
import Derived.Below
namespace Go.Proofs.Ytoobhpgkecplmaa.Ivs
open Go Go.RowKit Go.Proofs.YtoobhpgkecplmaaW.PrintLast Go.Proofs.YtoobhpgkecplmaaW.PrintWords Go.Proofs.YtoobhpgkecplmaaW.PrintMore
/-! A region that draws its order, by what holds whatever has come up: one step an operation, no orders. -/
section
variable {P : Program} {ops : Array Oper} {Q : Exit → Act → World → Prop} {md : Region.Mode} {S : World → Prop}
def upd (d : Nat → Bool) (i : Nat) : Nat → Bool := fun j => j == i || d j
theorem upd_same (d : Nat → Bool) (i : Nat) : upd d i i = true := by simp [upd]
theorem upd_ne (d : Nat → Bool) {i j : Nat} (h : j ≠ i) : upd d i j = d j := by simp [upd, h]
theorem upd_of {d : Nat → Bool} {i j : Nat} (h : d j = true) : upd d i j = true := by simp [upd, h]
/-- what an operation waits for -/
def waitsFor (md : Region.Mode) (ops : Array Oper) (i : Nat) : List Nat :=
  match ops[i]? with
  | none => []
  | some o => (o.after.toList.filter fun e => Region.binds md e).map fun e => e.on
def opensB (md : Region.Mode) (ops : Array Oper) : Bool := (List.range ops.size).all fun i => (waitsFor md ops i).all fun j => decide (j < i)
theorem ready_waits {l : Array Bool} {i : Nat} (h : i ∈ Region.ready md ops l) : l.getD i true = false ∧ ∀ j ∈ waitsFor md ops i, l.getD j false = true := by
  obtain ⟨h0, o, ho, hall⟩ := mem_ready.1 h
  refine ⟨h0, fun j hj => ?_⟩
  unfold waitsFor at hj
  rw [ho] at hj
  simp only [List.mem_map, List.mem_filter, Array.mem_toList_iff] at hj
  obtain ⟨e, ⟨he, hb⟩, rfl⟩ := hj
  exact hall e he hb
/-- while something is left, something may come up -/
theorem ready_some {l : Array Bool} (hsz : l.size = ops.size) (ho : opensB md ops = true) (h : Region.ready md ops l = []) : ∀ i, i < ops.size → l.getD i true = true := by
  intro i
  induction i using Nat.strongRecOn with
  | _ i ih =>
    intro hi
    cases hl : l.getD i true with
    | true => rfl
    | false =>
      exfalso
      have hm : i ∈ Region.ready md ops l := by
        refine mem_ready.2 ⟨hl, ops[i], by simp [hi], fun e he hb => ?_⟩
        have h1 := List.all_eq_true.1 ho i (List.mem_range.2 hi)
        have h2 : e.on ∈ waitsFor md ops i := by
          unfold waitsFor
          rw [show ops[i]? = some ops[i] by simp [hi]]
          simp only [List.mem_map, List.mem_filter, Array.mem_toList_iff]
          exact ⟨e, ⟨he, hb⟩, rfl⟩
        have h3 : e.on < i := by simpa using List.all_eq_true.1 h1 _ h2
        have h4 := ih e.on h3 (by omega)
        have h5 : e.on < l.size := by omega
        simpa [Array.getD, h5] using h4
      rw [h] at hm
      cases hm
def unlisted (l : Array Bool) : Nat := l.toList.countP fun b => !b
theorem unlisted_set {l : Array Bool} {i : Nat} (h : l.getD i true = false) : unlisted (l.setIfInBounds i true) + 1 = unlisted l := by
  have hi : i < l.size := by
    rcases Nat.lt_or_ge i l.size with h' | h'
    · exact h'
    · simp [Array.getD, Nat.not_lt.2 h'] at h
  have hv : l.toList[i]? = some false := by
    have : l[i] = false := by simpa [Array.getD, hi] using h
    rw [Array.getElem?_toList, Array.getElem?_eq_getElem hi, this]
  unfold unlisted
  rw [Array.toList_setIfInBounds]
  generalize l.toList = L at *
  clear h hi
  induction L generalizing i with
  | nil => simp at hv
  | cons b L ih =>
    cases i with
    | zero =>
      simp at hv
      subst hv
      simp
    | succ i =>
      have := ih (i := i) (by simpa using hv)
      simp only [List.set_cons_succ, List.countP_cons]
      omega
/-- one operation's step: what holds goes on -/
def StepOk (P : Program) (md : Region.Mode) (ops : Array Oper) (Q : Exit → Act → World → Prop) (F : (Nat → Bool) → Act → World → Prop) (i : Nat) : Prop :=
  ∀ oi, ops[i]? = some oi → ∀ (d : Nat → Bool) a w, d i = false → (∀ j, (waitsFor md ops i).contains j = true → d j = true) → F d a w → ∀ K : Act → World → Prop, (∀ a' w', F (upd d i) a' w' → K a' w') →
    if Region.wanted oi (yielded ops a.tmps) = true then Oper.wp P oi a w K Q else K (a.put oi.dst undef) w
theorem StepOk.mk {F : (Nat → Bool) → Act → World → Prop} {i : Nat} {oi : Oper} (ho : ops[i]? = some oi)
    (h : ∀ (d : Nat → Bool) a w, d i = false → (∀ j, (waitsFor md ops i).contains j = true → d j = true) → F d a w → ∀ K : Act → World → Prop, (∀ a' w', F (upd d i) a' w' → K a' w') →
      if Region.wanted oi (yielded ops a.tmps) = true then Oper.wp P oi a w K Q else K (a.put oi.dst undef) w) : StepOk P md ops Q F i := fun oj hj => by
  obtain rfl := Option.some.inj (ho.symm.trans hj)
  exact h
def Steps (P : Program) (md : Region.Mode) (ops : Array Oper) (Q : Exit → Act → World → Prop) (F : (Nat → Bool) → Act → World → Prop) (cs : List Nat) : Prop := ∀ i ∈ cs, StepOk P md ops Q F i
theorem Steps.nil {F : (Nat → Bool) → Act → World → Prop} : Steps P md ops Q F [] := fun _ h => by cases h
theorem Steps.cons {F : (Nat → Bool) → Act → World → Prop} {i : Nat} {cs : List Nat} (h : StepOk P md ops Q F i) (hs : Steps P md ops Q F cs) : Steps P md ops Q F (i :: cs) := fun j hj => by
  rcases List.mem_cons.1 hj with rfl | hj
  · exact h
  · exact hs j hj
theorem inv_go (F : (Nat → Bool) → Act → World → Prop) (cs : List Nat) (hFS : ∀ d a w, F d a w → S w) (hac : opensB md ops = true)
    (hend : ∀ d a w, (∀ i, i < ops.size → d i = true) → F d a w → Q .normal a w) (hstep : Steps P md ops Q F cs) :
    ∀ (fuel : Nat) (l : Array Bool) (a : Act) (w : World), l.size = ops.size → unlisted l ≤ fuel → (∀ i, l.getD i true = false → i ∈ cs) → F (fun i => l.getD i true) a w → wpAnyLast P md ops Q S [] fuel l a w := by
  intro fuel
  induction fuel with
  | zero =>
    intro l a w hsz hu hc hF
    have h0 : Region.ready md ops l = [] := by
      cases hr : Region.ready md ops l with
      | nil => rfl
      | cons i r =>
        have hm : i ∈ Region.ready md ops l := by rw [hr]; simp
        have := unlisted_set (ready_waits hm).1
        omega
    exact ⟨h0, hend _ _ _ (ready_some hsz hac h0) hF⟩
  | succ fuel ih =>
    intro l a w hsz hu hc hF
    refine ⟨fun h0 => hend _ _ _ (ready_some hsz hac h0) hF, fun i hm => ?_⟩
    obtain ⟨h1, h2⟩ := ready_waits hm
    obtain ⟨_, o, ho, _⟩ := mem_ready.1 hm
    have hus := unlisted_set h1
    have hil : i < l.size := by
      rcases Nat.lt_or_ge i l.size with h' | h'
      · exact h'
      · simp [Array.getD, Nat.not_lt.2 h'] at h1
    have hd : (fun j => (l.setIfInBounds i true).getD j true) = upd (fun j => l.getD j true) i := by
      funext j
      by_cases h : j = i
      · subst h
        rw [upd_same]
        simp [Array.getD, hil]
      · rw [upd_ne _ h, getD_set_ne true (Ne.symm h)]
    have hwait : ∀ j, (waitsFor md ops i).contains j = true → (fun j => l.getD j true) j = true := fun j hj => by
      have h3 := h2 j (by simpa using hj)
      have : j < l.size := by
        rcases Nat.lt_or_ge j l.size with h' | h'
        · exact h'
        · simp [Array.getD, Nat.not_lt.2 h'] at h3
      simpa [Array.getD, this] using h3
    refine wpOp_step ho fun K hK => hstep i (hc i h1) o ho _ a w h1 hwait hF K fun a' w' hF' => hK a' w' ⟨fun _ _ => hFS _ _ _ hF', ?_⟩
    refine ih _ a' w' (by simpa using hsz) (by omega) (fun j hj => ?_) (by rw [hd]; exact hF')
    by_cases h : j = i
    · subst h
      simp [Array.getD, hil] at hj
    · rw [getD_set_ne true (Ne.symm h)] at hj
      exact hc j hj
theorem inv_ {n : Nat} {fuel : Nat} {l : Array Bool} {a : Act} {w : World} (F : (Nat → Bool) → Act → World → Prop) (cs : List Nat) (hn : ops.size = n)
    (hac : opensB md ops = true) (hl : (l.size == n && decide (unlisted l ≤ fuel) && (List.range n).all fun i => cs.contains i || l.getD i true) = true)
    (hFS : ∀ d a w, F d a w → S w) (h0 : F (fun i => l.getD i true) a w) (hstep : Steps P md ops Q F cs)
    (hend : ∀ d a w, (∀ i, i < n → d i = true) → F d a w → Q .normal a w) : wpAnyLast P md ops Q S [] fuel l a w := by
  subst hn
  simp only [Bool.and_eq_true, beq_iff_eq, decide_eq_true_eq] at hl
  obtain ⟨⟨h1, h2⟩, h3⟩ := hl
  refine inv_go F cs hFS hac hend hstep fuel l a w h1 h2 (fun i hi => ?_) h0
  have hil : i < ops.size := by
    rcases Nat.lt_or_ge i l.size with h' | h'
    · omega
    · simp [Array.getD, Nat.not_lt.2 h'] at hi
  have := List.all_eq_true.1 h3 i (List.mem_range.2 hil)
  rw [hi] at this
  simpa using this
end
/-! Whole stores into a block of the call's own. -/
section
variable {P : Program}
theorem exec_store {o : Oper} {ev : Operand → Value} (T : TypeId) (x y : Operand) (ho : o.op = .store T x y) {W : World} {g : Nat} {old new : Array Value} (hx : ev x = .pointer (some ⟨g, 0, none⟩)) (hy : ev y = .agg new)
    (hh : W.heap[g]? = some (.cells old T (0, 0))) (hsz : new.size = old.size) (hi : (P.info? T).map (·.size) = some new.size) (h1 : ∀ q ∈ new.toList, q.oneCell' = true) : (execOp ev o).run P W = .ok .skip (W.setCells g 0 new.toList) := by
  have hrun := run_store_run (P := P) (o := 0) T (.agg new) new.toList hh rfl (by rw [Array.length_toList]; exact hi) (by rw [Array.length_toList]; omega) h1
  unfold execOp
  simp only [ho, hx, hy, Sem.run_bind, Sem.run_pure, Result.andThen_ok, hrun]
theorem setCells_to {g : Nat} {t : TypeId} (seg : List Value) : ∀ (pre mid : List Value) (W : World), W.heap[g]? = some (.cells (pre ++ mid).toArray t (0, 0)) → mid.length = seg.length → (W.setCells g pre.length seg).heap[g]? = some (.cells (pre ++ seg).toArray t (0, 0)) := by
  induction seg with
  | nil =>
    intro pre mid W h hl
    obtain rfl := List.eq_nil_of_length_eq_zero hl
    exact h
  | cons v seg ih =>
    intro pre mid W h hl
    match mid, hl with
    | m :: mid, hl =>
      have h1 := blk_set h pre.length v
      have e : (pre ++ m :: mid).toArray.setIfInBounds pre.length v = ((pre ++ [v]) ++ mid).toArray := by simp
      rw [e] at h1
      have h2 := ih (pre ++ [v]) mid _ h1 (by simpa using hl)
      simpa [World.setCells] using h2
theorem stored {W : World} {g : Nat} {t : TypeId} {old new : Array Value} (hh : W.heap[g]? = some (.cells old t (0, 0))) (hsz : new.size = old.size) : (W.setCells g 0 new.toList).heap[g]? = some (.cells new t (0, 0)) := by
  have := setCells_to (g := g) (t := t) new.toList [] old.toList W (by simpa using hh) (by simp only [Array.length_toList]; omega)
  simpa using this
theorem below_stored {B g : Nat} {w : World} (seg : List Value) : ∀ (o : Nat) (W : World), Below B w W → B ≤ g → Below B w (W.setCells g o seg) := by
  induction seg with
  | nil => intro o W h _; exact h
  | cons v seg ih => intro o W h hg; exact ih (o + 1) _ (h.setCell hg v) hg
theorem stored_other {g j : Nat} (hj : j ≠ g) (seg : List Value) : ∀ (o : Nat) (W : World), (W.setCells g o seg).heap[j]? = W.heap[j]? := by
  induction seg with
  | nil => intro o W; rfl
  | cons v seg ih =>
    intro o W
    exact (ih (o + 1) _).trans (Below.heap_setCell W ⟨g, o, none⟩ v j hj)
theorem lt_of_blk {W : World} {g : Nat} {o : Obj} (h : W.heap[g]? = some o) : g < W.heap.size := (Array.getElem?_eq_some_iff.1 h).1
theorem blk_kept {W W' : World} {g : Nat} {o : Obj} (h : W.heap[g]? = some o) (hb : Below W.heap.size W W') : W'.heap[g]? = some o := (hb.block g (lt_of_blk h)).trans h
end
/-! Two values, two variables: what holds while a region like 'a, b := f(x), g(y)' draws its order. -/
section
variable {P : Program} {ops : Array Oper} {Q : Exit → Act → World → Prop} {md : Region.Mode} {S : World → Prop}
theorem at_act {fuel : Nat} {l : Array Bool} {a : Act} {w : World} (h : ∀ A0, A0 = a → wpAnyLast P md ops Q S [] fuel l A0 w) : wpAnyLast P md ops Q S [] fuel l a w := h a rfl
theorem put_put (a : Act) (s : Tmp) (v u : Value) : (a.put (some s) v).put (some s) u = a.put (some s) u := by simp [Act.put]
theorem put_swap (a : Act) {s t : Tmp} (h : s ≠ t) (v u : Value) : (a.put (some s) v).put (some t) u = (a.put (some t) u).put (some s) v :=
  Act.put_comm a v u (fun d hd => by
    obtain rfl := Option.some.inj hd
    intro h'
    exact h (Option.some.inj h').symm)
def Fr (A0 : Act) (s1 s2 p1 p2 : Tmp) (x1 x2 y1 y2 : Value) : Act := (((A0.put (some s1) x1).put (some s2) x2).put (some p1) y1).put (some p2) y2
structure Dis (s1 s2 p1 p2 : Tmp) : Prop where
  a : s1 ≠ s2
  b : s1 ≠ p1
  c : s1 ≠ p2
  d : s2 ≠ p1
  e : s2 ≠ p2
  f : p1 ≠ p2
theorem Fr.put1 {A0 : Act} {s1 s2 p1 p2 : Tmp} (D : Dis s1 s2 p1 p2) (x1 x2 y1 y2 v : Value) : (Fr A0 s1 s2 p1 p2 x1 x2 y1 y2).put (some s1) v = Fr A0 s1 s2 p1 p2 v x2 y1 y2 := by
  unfold Fr
  rw [put_swap _ D.c.symm, put_swap _ D.b.symm, put_swap _ D.a.symm, put_put]
theorem Fr.put2 {A0 : Act} {s1 s2 p1 p2 : Tmp} (D : Dis s1 s2 p1 p2) (x1 x2 y1 y2 v : Value) : (Fr A0 s1 s2 p1 p2 x1 x2 y1 y2).put (some s2) v = Fr A0 s1 s2 p1 p2 x1 v y1 y2 := by
  unfold Fr
  rw [put_swap _ D.e.symm, put_swap _ D.d.symm, put_put]
theorem Fr.put3 {A0 : Act} {s1 s2 p1 p2 : Tmp} (D : Dis s1 s2 p1 p2) (x1 x2 y1 y2 v : Value) : (Fr A0 s1 s2 p1 p2 x1 x2 y1 y2).put (some p1) v = Fr A0 s1 s2 p1 p2 x1 x2 v y2 := by
  unfold Fr
  rw [put_swap _ D.f.symm, put_put]
theorem Fr.put4 {A0 : Act} {s1 s2 p1 p2 : Tmp} (x1 x2 y1 y2 v : Value) : (Fr A0 s1 s2 p1 p2 x1 x2 y1 y2).put (some p2) v = Fr A0 s1 s2 p1 p2 x1 x2 y1 v := by
  unfold Fr
  rw [put_put]
/-- s1, s2: the values' slots, i1, i2 their operations; p1, p2: the variables' slots, ia, ib their allocs, ja, jb their stores -/
def F2 (s1 s2 p1 p2 : Tmp) (i1 i2 ia ib ja jb : Nat) (T : TypeId) (V1 V2 : Value) (Z C1 C2 : Array Value) (W0 : World) (A0 : Act) (d : Nat → Bool) (a : Act) (w : World) : Prop :=
  ∃ (x1 x2 y1 y2 : Value) (g1 g2 : Nat), a = Fr A0 s1 s2 p1 p2 x1 x2 y1 y2 ∧ Below W0.heap.size W0 w ∧ (d i1 = true → x1 = V1) ∧ (d i2 = true → x2 = V2) ∧
    (d ia = true → y1 = .pointer (some ⟨g1, 0, none⟩) ∧ W0.heap.size ≤ g1 ∧ w.heap[g1]? = some (.cells (bif d ja then C1 else Z) T (0, 0))) ∧
    (d ib = true → y2 = .pointer (some ⟨g2, 0, none⟩) ∧ W0.heap.size ≤ g2 ∧ w.heap[g2]? = some (.cells (bif d jb then C2 else Z) T (0, 0))) ∧ (d ia = true → d ib = true → g1 ≠ g2) ∧ (d ja = true → d ia = true) ∧ (d jb = true → d ib = true)
structure Six (i1 i2 ia ib ja jb : Nat) : Prop where
  h : [i1, i2, ia, ib, ja, jb].Nodup
section
variable {s1 s2 p1 p2 : Tmp} {i1 i2 ia ib ja jb : Nat} {T : TypeId} {V1 V2 : Value} {Z C1 C2 : Array Value} {W0 : World} {A0 : Act} {d : Nat → Bool} {a : Act} {w w' : World}
theorem F2.below (h : F2 s1 s2 p1 p2 i1 i2 ia ib ja jb T V1 V2 Z C1 C2 W0 A0 d a w) : Below W0.heap.size W0 w := by
  obtain ⟨_, _, _, _, _, _, _, hb, _⟩ := h
  exact hb
theorem F2.val1 (D : Dis s1 s2 p1 p2) (N : Six i1 i2 ia ib ja jb) (h : F2 s1 s2 p1 p2 i1 i2 ia ib ja jb T V1 V2 Z C1 C2 W0 A0 d a w) (hb : Below w.heap.size w w') :
    F2 s1 s2 p1 p2 i1 i2 ia ib ja jb T V1 V2 Z C1 C2 W0 A0 (upd d i1) (a.put (some s1) V1) w' := by
  obtain ⟨x1, x2, y1, y2, g1, g2, rfl, h1, h2, h3, h4, h5, h6, h7, h8⟩ := h
  have n := N.h
  simp only [List.nodup_cons, List.mem_cons, List.not_mem_nil, or_false, not_or, not_false_eq_true, List.nodup_nil, and_true] at n
  obtain ⟨⟨n1, n2, n3, n4, n5⟩, -⟩ := n
  refine ⟨V1, x2, y1, y2, g1, g2, Fr.put1 D _ _ _ _ _, h1.trans (hb.mono h1.size), fun _ => rfl, fun e => h3 (by rwa [upd_ne _ (Ne.symm n1)] at e), fun e => ?_, fun e => ?_, fun e e' => h6 (by rwa [upd_ne _ (Ne.symm n2)] at e) (by rwa [upd_ne _ (Ne.symm n3)] at e'), by rw [upd_ne _ (Ne.symm n4), upd_ne _ (Ne.symm n2)]; exact h7, by rw [upd_ne _ (Ne.symm n5), upd_ne _ (Ne.symm n3)]; exact h8⟩
  · obtain ⟨k1, k2, k3⟩ := h4 (by rwa [upd_ne _ (Ne.symm n2)] at e)
    exact ⟨k1, k2, by rw [upd_ne _ (Ne.symm n4)]; exact blk_kept k3 hb⟩
  · obtain ⟨k1, k2, k3⟩ := h5 (by rwa [upd_ne _ (Ne.symm n3)] at e)
    exact ⟨k1, k2, by rw [upd_ne _ (Ne.symm n5)]; exact blk_kept k3 hb⟩
theorem F2.val2 (D : Dis s1 s2 p1 p2) (N : Six i1 i2 ia ib ja jb) (h : F2 s1 s2 p1 p2 i1 i2 ia ib ja jb T V1 V2 Z C1 C2 W0 A0 d a w) (hb : Below w.heap.size w w') :
    F2 s1 s2 p1 p2 i1 i2 ia ib ja jb T V1 V2 Z C1 C2 W0 A0 (upd d i2) (a.put (some s2) V2) w' := by
  obtain ⟨x1, x2, y1, y2, g1, g2, rfl, h1, h2, h3, h4, h5, h6, h7, h8⟩ := h
  have n := N.h
  simp only [List.nodup_cons, List.mem_cons, List.not_mem_nil, or_false, not_or, not_false_eq_true, List.nodup_nil, and_true] at n
  obtain ⟨⟨n1, -⟩, ⟨n2, n3, n4, n5⟩, -⟩ := n
  refine ⟨x1, V2, y1, y2, g1, g2, Fr.put2 D _ _ _ _ _, h1.trans (hb.mono h1.size), fun e => h2 (by rwa [upd_ne _ n1] at e), fun _ => rfl, fun e => ?_, fun e => ?_, fun e e' => h6 (by rwa [upd_ne _ (Ne.symm n2)] at e) (by rwa [upd_ne _ (Ne.symm n3)] at e'), by rw [upd_ne _ (Ne.symm n4), upd_ne _ (Ne.symm n2)]; exact h7, by rw [upd_ne _ (Ne.symm n5), upd_ne _ (Ne.symm n3)]; exact h8⟩
  · obtain ⟨k1, k2, k3⟩ := h4 (by rwa [upd_ne _ (Ne.symm n2)] at e)
    exact ⟨k1, k2, by rw [upd_ne _ (Ne.symm n4)]; exact blk_kept k3 hb⟩
  · obtain ⟨k1, k2, k3⟩ := h5 (by rwa [upd_ne _ (Ne.symm n3)] at e)
    exact ⟨k1, k2, by rw [upd_ne _ (Ne.symm n5)]; exact blk_kept k3 hb⟩
theorem F2.var1 (D : Dis s1 s2 p1 p2) (N : Six i1 i2 ia ib ja jb) (hda : d ia = false) (h : F2 s1 s2 p1 p2 i1 i2 ia ib ja jb T V1 V2 Z C1 C2 W0 A0 d a w) :
    F2 s1 s2 p1 p2 i1 i2 ia ib ja jb T V1 V2 Z C1 C2 W0 A0 (upd d ia) (a.put (some p1) (.pointer (some ⟨w.heap.size, 0, none⟩))) (w.alloc (.cells Z T)) := by
  obtain ⟨x1, x2, y1, y2, g1, g2, rfl, h1, h2, h3, h4, h5, h6, h7, h8⟩ := h
  have n := N.h
  simp only [List.nodup_cons, List.mem_cons, List.not_mem_nil, or_false, not_or, not_false_eq_true, List.nodup_nil, and_true] at n
  obtain ⟨⟨n1, n2, n3, n4, n5⟩, ⟨n6, n7, n8, n9⟩, ⟨m1, m2, m3⟩, -⟩ := n
  have hb : Below w.heap.size w (w.alloc (.cells Z T)) := (Below.refl _ w).alloc (Nat.le_refl _) _
  refine ⟨x1, x2, _, y2, w.heap.size, g2, Fr.put3 D _ _ _ _ _, h1.alloc h1.size _, fun e => h2 (by rwa [upd_ne _ n2] at e), fun e => h3 (by rwa [upd_ne _ n6] at e), fun _ => ⟨rfl, h1.size, ?_⟩, fun e => ?_, fun _ e' => ?_, fun _ => upd_same _ _, by rw [upd_ne _ (Ne.symm m3), upd_ne _ (Ne.symm m1)]; exact h8⟩
  · have hj : d ja = false := by
      cases hq : d ja with
      | false => rfl
      | true => rw [h7 hq] at hda; cases hda
    rw [upd_ne _ (Ne.symm m2), hj]
    exact blk_new w (.cells Z T)
  · obtain ⟨k1, k2, k3⟩ := h5 (by rwa [upd_ne _ (Ne.symm m1)] at e)
    exact ⟨k1, k2, by rw [upd_ne _ (Ne.symm m3)]; exact blk_kept k3 hb⟩
  · obtain ⟨k1, k2, k3⟩ := h5 (by rwa [upd_ne _ (Ne.symm m1)] at e')
    have := lt_of_blk k3
    omega
theorem F2.var2 (N : Six i1 i2 ia ib ja jb) (hdb : d ib = false) (h : F2 s1 s2 p1 p2 i1 i2 ia ib ja jb T V1 V2 Z C1 C2 W0 A0 d a w) :
    F2 s1 s2 p1 p2 i1 i2 ia ib ja jb T V1 V2 Z C1 C2 W0 A0 (upd d ib) (a.put (some p2) (.pointer (some ⟨w.heap.size, 0, none⟩))) (w.alloc (.cells Z T)) := by
  obtain ⟨x1, x2, y1, y2, g1, g2, rfl, h1, h2, h3, h4, h5, h6, h7, h8⟩ := h
  have n := N.h
  simp only [List.nodup_cons, List.mem_cons, List.not_mem_nil, or_false, not_or, not_false_eq_true, List.nodup_nil, and_true] at n
  obtain ⟨⟨n1, n2, n3, n4, n5⟩, ⟨n6, n7, n8, n9⟩, ⟨m1, m2, m3⟩, ⟨q1, q2⟩, -⟩ := n
  have hb : Below w.heap.size w (w.alloc (.cells Z T)) := (Below.refl _ w).alloc (Nat.le_refl _) _
  refine ⟨x1, x2, y1, _, g1, w.heap.size, Fr.put4 _ _ _ _ _, h1.alloc h1.size _, fun e => h2 (by rwa [upd_ne _ n3] at e), fun e => h3 (by rwa [upd_ne _ n7] at e), fun e => ?_, fun _ => ⟨rfl, h1.size, ?_⟩, fun e _ => ?_, by rw [upd_ne _ (Ne.symm q1), upd_ne _ m1]; exact h7, fun _ => upd_same _ _⟩
  · obtain ⟨k1, k2, k3⟩ := h4 (by rwa [upd_ne _ m1] at e)
    exact ⟨k1, k2, by rw [upd_ne _ (Ne.symm q1)]; exact blk_kept k3 hb⟩
  · have hj : d jb = false := by
      cases hq : d jb with
      | false => rfl
      | true => rw [h8 hq] at hdb; cases hdb
    rw [upd_ne _ (Ne.symm q2), hj]
    exact blk_new w (.cells Z T)
  · obtain ⟨k1, k2, k3⟩ := h4 (by rwa [upd_ne _ m1] at e)
    have := lt_of_blk k3
    omega
theorem F2.put1 (N : Six i1 i2 ia ib ja jb) (hz : C1.size = Z.size) (hda : d ia = true) (hdj : d ja = false) (h : F2 s1 s2 p1 p2 i1 i2 ia ib ja jb T V1 V2 Z C1 C2 W0 A0 d a w)
    (hd1 : d i1 = true) : ∃ x2 y2 g1, a = Fr A0 s1 s2 p1 p2 V1 x2 (.pointer (some ⟨g1, 0, none⟩)) y2 ∧ w.heap[g1]? = some (.cells Z T (0, 0)) ∧ F2 s1 s2 p1 p2 i1 i2 ia ib ja jb T V1 V2 Z C1 C2 W0 A0 (upd d ja) a (w.setCells g1 0 C1.toList) := by
  obtain ⟨x1, x2, y1, y2, g1, g2, rfl, h1, h2, h3, h4, h5, h6, h7, h8⟩ := h
  have n := N.h
  simp only [List.nodup_cons, List.mem_cons, List.not_mem_nil, or_false, not_or, not_false_eq_true, List.nodup_nil, and_true] at n
  obtain ⟨⟨n1, n2, n3, n4, n5⟩, ⟨n6, n7, n8, n9⟩, ⟨m1, m2, m3⟩, ⟨q1, q2⟩, r1⟩ := n
  obtain ⟨rfl, k2, k3⟩ := h4 hda
  obtain rfl := h2 hd1
  rw [hdj] at k3
  refine ⟨x2, y2, g1, rfl, k3, _, x2, _, y2, g1, g2, rfl, below_stored _ 0 _ h1 k2, fun _ => rfl, fun e => h3 (by rwa [upd_ne _ n8] at e), fun _ => ⟨rfl, k2, ?_⟩, fun e => ?_, fun e e' => h6 hda (by rwa [upd_ne _ q1] at e'), fun _ => by rw [upd_ne _ m2]; exact hda, by rw [upd_ne _ (Ne.symm r1), upd_ne _ q1]; exact h8⟩
  · rw [upd_same]
    exact stored k3 hz
  · obtain ⟨k1', k2', k3'⟩ := h5 (by rwa [upd_ne _ q1] at e)
    refine ⟨k1', k2', ?_⟩
    rw [upd_ne _ (Ne.symm r1), stored_other (Ne.symm (h6 hda (by rwa [upd_ne _ q1] at e)))]
    exact k3'
theorem F2.put2 (N : Six i1 i2 ia ib ja jb) (hz : C2.size = Z.size) (hdb : d ib = true) (hdj : d jb = false) (h : F2 s1 s2 p1 p2 i1 i2 ia ib ja jb T V1 V2 Z C1 C2 W0 A0 d a w)
    (hd2 : d i2 = true) : ∃ x1 y1 g2, a = Fr A0 s1 s2 p1 p2 x1 V2 y1 (.pointer (some ⟨g2, 0, none⟩)) ∧ w.heap[g2]? = some (.cells Z T (0, 0)) ∧ F2 s1 s2 p1 p2 i1 i2 ia ib ja jb T V1 V2 Z C1 C2 W0 A0 (upd d jb) a (w.setCells g2 0 C2.toList) := by
  obtain ⟨x1, x2, y1, y2, g1, g2, rfl, h1, h2, h3, h4, h5, h6, h7, h8⟩ := h
  have n := N.h
  simp only [List.nodup_cons, List.mem_cons, List.not_mem_nil, or_false, not_or, not_false_eq_true, List.nodup_nil, and_true] at n
  obtain ⟨⟨n1, n2, n3, n4, n5⟩, ⟨n6, n7, n8, n9⟩, ⟨m1, m2, m3⟩, ⟨q1, q2⟩, r1⟩ := n
  obtain ⟨rfl, k2, k3⟩ := h5 hdb
  obtain rfl := h3 hd2
  rw [hdj] at k3
  refine ⟨x1, y1, g2, rfl, k3, x1, _, y1, _, g1, g2, rfl, below_stored _ 0 _ h1 k2, fun e => h2 (by rwa [upd_ne _ n5] at e), fun _ => rfl, fun e => ?_, fun _ => ⟨rfl, k2, ?_⟩, fun e e' => h6 (by rwa [upd_ne _ m3] at e) hdb, by rw [upd_ne _ r1, upd_ne _ m3]; exact h7, fun _ => by rw [upd_ne _ q2]; exact hdb⟩
  · obtain ⟨k1', k2', k3'⟩ := h4 (by rwa [upd_ne _ m3] at e)
    refine ⟨k1', k2', ?_⟩
    rw [upd_ne _ r1, stored_other (h6 (by rwa [upd_ne _ m3] at e) hdb)]
    exact k3'
  · rw [upd_same]
    exact stored k3 hz
theorem F2.fin (h : F2 s1 s2 p1 p2 i1 i2 ia ib ja jb T V1 V2 Z C1 C2 W0 A0 d a w) (e1 : d i1 = true) (e2 : d i2 = true) (e3 : d ia = true) (e4 : d ib = true) (e5 : d ja = true) (e6 : d jb = true) :
    ∃ g1 g2, a = Fr A0 s1 s2 p1 p2 V1 V2 (.pointer (some ⟨g1, 0, none⟩)) (.pointer (some ⟨g2, 0, none⟩)) ∧ Below W0.heap.size W0 w ∧ W0.heap.size ≤ g1 ∧ W0.heap.size ≤ g2 ∧ g1 ≠ g2 ∧ w.heap[g1]? = some (.cells C1 T (0, 0)) ∧ w.heap[g2]? = some (.cells C2 T (0, 0)) := by
  obtain ⟨x1, x2, y1, y2, g1, g2, rfl, h1, h2, h3, h4, h5, h6, h7, h8⟩ := h
  obtain ⟨rfl, a2, a3⟩ := h4 e3
  obtain ⟨rfl, b2, b3⟩ := h5 e4
  obtain rfl := h2 e1
  obtain rfl := h3 e2
  rw [e5] at a3
  rw [e6] at b3
  exact ⟨g1, g2, rfl, h1, a2, b2, h6 e3 e4, a3, b3⟩
theorem F2.start (hA : A0 = Fr A0 s1 s2 p1 p2 undef undef undef undef) (e1 : d i1 = false) (e2 : d i2 = false) (e3 : d ia = false) (e4 : d ib = false) (e5 : d ja = false) (e6 : d jb = false) (hb : Below W0.heap.size W0 w) : F2 s1 s2 p1 p2 i1 i2 ia ib ja jb T V1 V2 Z C1 C2 W0 A0 d A0 w :=
  ⟨undef, undef, undef, undef, 0, 0, hA, hb, (fun e => by rw [e1] at e; cases e), (fun e => by rw [e2] at e; cases e), (fun e => by rw [e3] at e; cases e), (fun e => by rw [e4] at e; cases e), (fun e => by rw [e3] at e; cases e), (fun e => by rw [e5] at e; cases e), (fun e => by rw [e6] at e; cases e)⟩
end
end
/-! The same, each value built of a call's answer (slots q1, q2; operations c1, c2). -/
section
theorem Fr.base {A0 : Act} {s1 s2 p1 p2 q : Tmp} (h1 : s1 ≠ q) (h2 : s2 ≠ q) (h3 : p1 ≠ q) (h4 : p2 ≠ q) (x1 x2 y1 y2 v : Value) : (Fr A0 s1 s2 p1 p2 x1 x2 y1 y2).put (some q) v = Fr (A0.put (some q) v) s1 s2 p1 p2 x1 x2 y1 y2 := by
  unfold Fr
  rw [put_swap _ h4, put_swap _ h3, put_swap _ h2, put_swap _ h1]
def F4 (q1 q2 : Tmp) (c1 c2 : Nat) (U1 U2 : Value) (s1 s2 p1 p2 : Tmp) (i1 i2 ia ib ja jb : Nat) (T : TypeId) (V1 V2 : Value) (Z C1 C2 : Array Value) (W0 : World) (A0 : Act) (d : Nat → Bool) (a : Act) (w : World) : Prop :=
  ∃ z1 z2 : Value, (d c1 = true → z1 = U1) ∧ (d c2 = true → z2 = U2) ∧ F2 s1 s2 p1 p2 i1 i2 ia ib ja jb T V1 V2 Z C1 C2 W0 ((A0.put (some q1) z1).put (some q2) z2) d a w
structure Apt (q1 q2 s1 s2 p1 p2 : Tmp) : Prop where
  h : [q1, q2, s1, s2, p1, p2].Nodup
structure Eight (c1 c2 i1 i2 ia ib ja jb : Nat) : Prop where
  h : [c1, c2, i1, i2, ia, ib, ja, jb].Nodup
variable {q1 q2 : Tmp} {c1 c2 : Nat} {U1 U2 : Value} {s1 s2 p1 p2 : Tmp} {i1 i2 ia ib ja jb : Nat} {T : TypeId} {V1 V2 : Value} {Z C1 C2 : Array Value} {W0 : World} {A0 : Act} {d : Nat → Bool} {a : Act} {w w' : World}
theorem F4.below (h : F4 q1 q2 c1 c2 U1 U2 s1 s2 p1 p2 i1 i2 ia ib ja jb T V1 V2 Z C1 C2 W0 A0 d a w) : Below W0.heap.size W0 w := by
  obtain ⟨_, _, _, _, h⟩ := h
  exact h.below
theorem Eight.six (N : Eight c1 c2 i1 i2 ia ib ja jb) : Six i1 i2 ia ib ja jb := ⟨(List.nodup_cons.1 (List.nodup_cons.1 N.h).2).2⟩
theorem Apt.dis (A : Apt q1 q2 s1 s2 p1 p2) : Dis s1 s2 p1 p2 := by
  have n := A.h
  simp only [List.nodup_cons, List.mem_cons, List.not_mem_nil, or_false, not_or, not_false_eq_true, List.nodup_nil, and_true] at n
  obtain ⟨-, -, ⟨h1, h2, h3⟩, ⟨h4, h5⟩, h6⟩ := n
  exact ⟨h1, h2, h3, h4, h5, h6⟩
theorem F2.upd' {i : Nat} (n1 : i1 ≠ i) (n2 : i2 ≠ i) (n3 : ia ≠ i) (n4 : ib ≠ i) (n5 : ja ≠ i) (n6 : jb ≠ i) (h : F2 s1 s2 p1 p2 i1 i2 ia ib ja jb T V1 V2 Z C1 C2 W0 A0 d a w) (hb : Below w.heap.size w w') :
    F2 s1 s2 p1 p2 i1 i2 ia ib ja jb T V1 V2 Z C1 C2 W0 A0 (upd d i) a w' := by
  obtain ⟨x1, x2, y1, y2, g1, g2, rfl, h1, h2, h3, h4, h5, h6, h7, h8⟩ := h
  refine ⟨x1, x2, y1, y2, g1, g2, rfl, h1.trans (hb.mono h1.size), ?_, ?_, ?_, ?_, ?_, ?_, ?_⟩
  · rw [upd_ne _ n1]; exact h2
  · rw [upd_ne _ n2]; exact h3
  · rw [upd_ne _ n3, upd_ne _ n5]
    exact fun e => ⟨(h4 e).1, (h4 e).2.1, blk_kept (h4 e).2.2 hb⟩
  · rw [upd_ne _ n4, upd_ne _ n6]
    exact fun e => ⟨(h5 e).1, (h5 e).2.1, blk_kept (h5 e).2.2 hb⟩
  · rw [upd_ne _ n3, upd_ne _ n4]; exact h6
  · rw [upd_ne _ n5, upd_ne _ n3]; exact h7
  · rw [upd_ne _ n6, upd_ne _ n4]; exact h8
theorem F2.rebase {q : Tmp} {v : Value} (h1 : s1 ≠ q) (h2 : s2 ≠ q) (h3 : p1 ≠ q) (h4 : p2 ≠ q) (h : F2 s1 s2 p1 p2 i1 i2 ia ib ja jb T V1 V2 Z C1 C2 W0 A0 d a w) :
    F2 s1 s2 p1 p2 i1 i2 ia ib ja jb T V1 V2 Z C1 C2 W0 (A0.put (some q) v) d (a.put (some q) v) w := by
  obtain ⟨x1, x2, y1, y2, g1, g2, rfl, r⟩ := h
  exact ⟨x1, x2, y1, y2, g1, g2, Fr.base h1 h2 h3 h4 _ _ _ _ _, r⟩
theorem F4.call1 (A : Apt q1 q2 s1 s2 p1 p2) (N : Eight c1 c2 i1 i2 ia ib ja jb) (h : F4 q1 q2 c1 c2 U1 U2 s1 s2 p1 p2 i1 i2 ia ib ja jb T V1 V2 Z C1 C2 W0 A0 d a w) (hb : Below w.heap.size w w') :
    F4 q1 q2 c1 c2 U1 U2 s1 s2 p1 p2 i1 i2 ia ib ja jb T V1 V2 Z C1 C2 W0 A0 (upd d c1) (a.put (some q1) U1) w' := by
  obtain ⟨z1, z2, h1, h2, h3⟩ := h
  have n := A.h
  have m := N.h
  simp only [List.nodup_cons, List.mem_cons, List.not_mem_nil, or_false, not_or, not_false_eq_true, List.nodup_nil, and_true] at n m
  obtain ⟨⟨k0, k1, k2, k3, k4⟩, -⟩ := n
  obtain ⟨⟨m0, m1, m2, m3, m4, m5, m6⟩, -⟩ := m
  refine ⟨U1, z2, fun _ => rfl, by rw [upd_ne _ (Ne.symm m0)]; exact h2, ?_⟩
  have h4 := (h3.rebase (q := q1) (v := U1) (Ne.symm k1) (Ne.symm k2) (Ne.symm k3) (Ne.symm k4)).upd' (i := c1) (Ne.symm m1) (Ne.symm m2) (Ne.symm m3) (Ne.symm m4) (Ne.symm m5) (Ne.symm m6) hb
  rwa [put_swap _ (Ne.symm k0), put_put] at h4
theorem F4.call2 (A : Apt q1 q2 s1 s2 p1 p2) (N : Eight c1 c2 i1 i2 ia ib ja jb) (h : F4 q1 q2 c1 c2 U1 U2 s1 s2 p1 p2 i1 i2 ia ib ja jb T V1 V2 Z C1 C2 W0 A0 d a w) (hb : Below w.heap.size w w') :
    F4 q1 q2 c1 c2 U1 U2 s1 s2 p1 p2 i1 i2 ia ib ja jb T V1 V2 Z C1 C2 W0 A0 (upd d c2) (a.put (some q2) U2) w' := by
  obtain ⟨z1, z2, h1, h2, h3⟩ := h
  have n := A.h
  have m := N.h
  simp only [List.nodup_cons, List.mem_cons, List.not_mem_nil, or_false, not_or, not_false_eq_true, List.nodup_nil, and_true] at n m
  obtain ⟨⟨k0, -⟩, ⟨k1, k2, k3, k4⟩, -⟩ := n
  obtain ⟨⟨m0, -⟩, ⟨m1, m2, m3, m4, m5, m6⟩, -⟩ := m
  refine ⟨z1, U2, by rw [upd_ne _ m0]; exact h1, fun _ => rfl, ?_⟩
  have h4 := (h3.rebase (q := q2) (v := U2) (Ne.symm k1) (Ne.symm k2) (Ne.symm k3) (Ne.symm k4)).upd' (i := c2) (Ne.symm m1) (Ne.symm m2) (Ne.symm m3) (Ne.symm m4) (Ne.symm m5) (Ne.symm m6) hb
  rwa [put_put] at h4
theorem F4.lift {i : Nat} {a' : Act} (m1 : c1 ≠ i) (m2 : c2 ≠ i) (h : F4 q1 q2 c1 c2 U1 U2 s1 s2 p1 p2 i1 i2 ia ib ja jb T V1 V2 Z C1 C2 W0 A0 d a w)
    (f : ∀ B, F2 s1 s2 p1 p2 i1 i2 ia ib ja jb T V1 V2 Z C1 C2 W0 B d a w → F2 s1 s2 p1 p2 i1 i2 ia ib ja jb T V1 V2 Z C1 C2 W0 B (upd d i) a' w') :
    F4 q1 q2 c1 c2 U1 U2 s1 s2 p1 p2 i1 i2 ia ib ja jb T V1 V2 Z C1 C2 W0 A0 (upd d i) a' w' := by
  obtain ⟨z1, z2, h1, h2, h3⟩ := h
  exact ⟨z1, z2, by rw [upd_ne _ m1]; exact h1, by rw [upd_ne _ m2]; exact h2, f _ h3⟩
theorem F4.put1 (m1 : c1 ≠ ja) (m2 : c2 ≠ ja) (N : Six i1 i2 ia ib ja jb) (hz : C1.size = Z.size) (hda : d ia = true) (hdj : d ja = false) (h : F4 q1 q2 c1 c2 U1 U2 s1 s2 p1 p2 i1 i2 ia ib ja jb T V1 V2 Z C1 C2 W0 A0 d a w)
    (hd1 : d i1 = true) : ∃ z1 z2 x2 y2 g1, a = Fr ((A0.put (some q1) z1).put (some q2) z2) s1 s2 p1 p2 V1 x2 (.pointer (some ⟨g1, 0, none⟩)) y2 ∧ w.heap[g1]? = some (.cells Z T (0, 0)) ∧ F4 q1 q2 c1 c2 U1 U2 s1 s2 p1 p2 i1 i2 ia ib ja jb T V1 V2 Z C1 C2 W0 A0 (upd d ja) a (w.setCells g1 0 C1.toList) := by
  obtain ⟨z1, z2, k1, k2, h⟩ := h
  obtain ⟨x2, y2, g1, ha, hh, hF⟩ := F2.put1 N hz hda hdj h hd1
  exact ⟨z1, z2, x2, y2, g1, ha, hh, z1, z2, by rw [upd_ne _ m1]; exact k1, by rw [upd_ne _ m2]; exact k2, hF⟩
theorem F4.put2 (m1 : c1 ≠ jb) (m2 : c2 ≠ jb) (N : Six i1 i2 ia ib ja jb) (hz : C2.size = Z.size) (hdb : d ib = true) (hdj : d jb = false) (h : F4 q1 q2 c1 c2 U1 U2 s1 s2 p1 p2 i1 i2 ia ib ja jb T V1 V2 Z C1 C2 W0 A0 d a w)
    (hd2 : d i2 = true) : ∃ z1 z2 x1 y1 g2, a = Fr ((A0.put (some q1) z1).put (some q2) z2) s1 s2 p1 p2 x1 V2 y1 (.pointer (some ⟨g2, 0, none⟩)) ∧ w.heap[g2]? = some (.cells Z T (0, 0)) ∧ F4 q1 q2 c1 c2 U1 U2 s1 s2 p1 p2 i1 i2 ia ib ja jb T V1 V2 Z C1 C2 W0 A0 (upd d jb) a (w.setCells g2 0 C2.toList) := by
  obtain ⟨z1, z2, k1, k2, h⟩ := h
  obtain ⟨x1, y1, g2, ha, hh, hF⟩ := F2.put2 N hz hdb hdj h hd2
  exact ⟨z1, z2, x1, y1, g2, ha, hh, z1, z2, by rw [upd_ne _ m1]; exact k1, by rw [upd_ne _ m2]; exact k2, hF⟩
end
end Go.Proofs.Ytoobhpgkecplmaa.Ivs
