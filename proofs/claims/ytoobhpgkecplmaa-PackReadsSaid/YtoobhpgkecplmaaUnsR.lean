/- Lemmas: what functions of package pack compute, by hand. No conditions but those that the theorems name. -/
import Derived.Test.YtoobhpgkecplmaaQPackReadsx4
import Derived.WalkSmall
import Derived.Recover
import Derived.Tactics2
import Derived.Test.YtoobhpgkecplmaaIvs
namespace Go.Proofs.Ytoobhpgkecplmaa.QPackReads
open Go Go.RowKit Go.Proofs.YtoobhpgkecplmaaW.PrintWords Go.Proofs.YtoobhpgkecplmaaW.PrintLast Go.Proofs.YtoobhpgkecplmaaW.PrintMore
attribute [local go_sem] max2_int min2_int max_two min_two max_three min_three max_four min_four
set_option linter.unusedVariables false
set_option linter.unusedSimpArgs false
set_option maxHeartbeats 8000000 in
set_option maxRecDepth 100000 in
theorem unsX_ret (ge gl : Nat) (x : Int) (W : World) (he : W.heap[ge]? = some (.cells #[.int .i64 x] 34 (0, 0))) :
    CallsD Try.prog 29 #[.pointer (some ⟨ge, 0, none⟩), .pointer (some ⟨gl, 0, none⟩)] .returning W fun e u' w' => e = .returned (.tuple #[]) ∧ u' = .returning ∧ ∃ W1, Below W.heap.size W W1 ∧ w' = W1.setCell ⟨ge, 0, none⟩ (.int .i64 0) := by
  refine callsD_of_wpS Try.func29 rfl fun c₀ cs hu => ?_
  apply wpS_seq
  apply wpS_region
  simp [wpOpsS, go_sem, recoverD, hu, Try.ntmps29, Exit.thenS]
  refine (caught_nil W).mono ?_
  rintro e w1 ⟨rfl, hb⟩
  have he1 := (hb.block _ (blk_sz he)).trans he
  have hc1 : w1.cell? ⟨ge, 0, none⟩ = some (.int .i64 x) := (blk_cell he1 0).trans rfl
  have hf1 := blk_frozen he1 0
  have hc2 : (w1.setCell ⟨ge, 0, none⟩ (.int .i64 0)).cell? ⟨ge, 0, none⟩ = some (.int .i64 0) := (blk_cell (blk_set he1 0 _) 0).trans rfl
  simp [go_sem, hc1, hf1]
  apply wpS_seq
  apply wpS_region
  simp [wpOpsS, go_sem, hc2, Exit.thenS]
  refine wpS_cond (t := false) (by simp [Act.eval, Array.replicate]) ?_
  simp only [Bool.false_eq_true, if_false]
  refine wpS_of_wp (wp_skip ?_)
  cases c₀
  simp_all [bodyPostS, results, Try.results29]
  exact ⟨w1, hb, rfl⟩
set_option maxHeartbeats 8000000 in
set_option maxRecDepth 100000 in
theorem unsX_pan (ge gl : Nat) (hne : ge ≠ gl) (x ee : Int) (hee : ee ≠ 0) (v0 v1 v2 v3 v4 v5 v6 : Value) (W : World) (he : W.heap[ge]? = some (.cells #[.int .i64 x] 34 (0, 0))) (hl : W.heap[gl]? = some (.cells #[v0, v1, v2, v3, v4, v5, v6] 28 (0, 0))) :
    CallsD Try.prog 29 #[.pointer (some ⟨ge, 0, none⟩), .pointer (some ⟨gl, 0, none⟩)] (.panicking (flt ee)) W fun e u' w' => e = .returned (.tuple #[]) ∧ u' = .panicking [{ v := .iface 87 (.agg #[.int .i64 ee]), recovered := true }] ∧ ∃ W1, Below W.heap.size W W1 ∧ w' = (W1.setCell ⟨ge, 0, none⟩ (.int .i64 ee)).setCells gl 0 [.int .i64 0, .int .i64 0, .int .i64 0, .int .i64 0, .int .u64 0, .slice none 0 0, .slice none 0 0] := by
  refine callsD_of_wpS Try.func29 rfl fun c₀ cs hu => ?_
  unfold flt at hu
  apply wpS_seq
  apply wpS_region
  simp [wpOpsS, go_sem, recoverD, hu, Try.ntmps29, Exit.thenS]
  refine (caught_flt ee W).mono ?_
  rintro e w1 ⟨rfl, hb⟩
  have he1 := (hb.block _ (blk_sz he)).trans he
  have hl1 := (hb.block _ (blk_sz hl)).trans hl
  have hc1 : w1.cell? ⟨ge, 0, none⟩ = some (.int .i64 x) := (blk_cell he1 0).trans rfl
  have hf1 := blk_frozen he1 0
  have hc2 : (w1.setCell ⟨ge, 0, none⟩ (.int .i64 ee)).cell? ⟨ge, 0, none⟩ = some (.int .i64 ee) := (blk_cell (blk_set he1 0 _) 0).trans rfl
  have hl2 := (Below.heap_setCell w1 ⟨ge, 0, none⟩ (.int .i64 ee) gl (fun e => hne e.symm)).trans hl1
  have hc3 : (w1.setCell ⟨ge, 0, none⟩ (.int .i64 ee)).cell? ⟨gl, 0, none⟩ = some v0 := (blk_cell hl2 0).trans rfl
  have hf3 := blk_frozen hl2 0
  have hd0 : w1.cell? ⟨gl, 0, none⟩ = some v0 := (blk_cell hl1 0).trans rfl
  have he10 := blk_frozen hl1 0
  have hd1 : w1.cell? ⟨gl, 1, none⟩ = some v1 := (blk_cell hl1 1).trans rfl
  have he11 := blk_frozen hl1 1
  have hd2 : w1.cell? ⟨gl, 2, none⟩ = some v2 := (blk_cell hl1 2).trans rfl
  have he12 := blk_frozen hl1 2
  have hd3 : w1.cell? ⟨gl, 3, none⟩ = some v3 := (blk_cell hl1 3).trans rfl
  have he13 := blk_frozen hl1 3
  have hd4 : w1.cell? ⟨gl, 4, none⟩ = some v4 := (blk_cell hl1 4).trans rfl
  have he14 := blk_frozen hl1 4
  have hd5 : w1.cell? ⟨gl, 5, none⟩ = some v5 := (blk_cell hl1 5).trans rfl
  have he15 := blk_frozen hl1 5
  have hd6 : w1.cell? ⟨gl, 6, none⟩ = some v6 := (blk_cell hl1 6).trans rfl
  have he16 := blk_frozen hl1 6
  simp [go_sem, hc1, hf1]
  apply wpS_seq
  apply wpS_region
  simp [wpOpsS, go_sem, hc2, Exit.thenS]
  refine wpS_cond (t := true) (by simp [Act.eval, Array.replicate, hee]) ?_
  simp only [if_true]
  apply wpS_region
  cases c₀
  simp_all [wpOpsS, go_sem, bodyPostS, results, Try.results29, World.setCells]
  exact ⟨w1, hb, rfl⟩
abbrev kU : Kd (List Int) := Kd.slice 3 (Kd.int .i64)
structure Scr where
  a : Int
  b : Int
  c : Int
  d : Int
  p : Int
  up : List (List Int)
  acts : List S54
def listsP : Nat → List Int → Except Int (List (List Int) × List Int)
  | 0, l => .ok ([], l)
  | n + 1, l => match listP l with
    | .error e => .error e
    | .ok (x, l1) => match listsP n l1 with
      | .error e => .error e
      | .ok (xs, l2) => .ok (x :: xs, l2)
def actP (l : List Int) : Except Int (S54 × List Int) :=
  match numP l with
  | .error e => .error e
  | .ok (a, l1) => match numP l1 with
    | .error e => .error e
    | .ok (b, l2) => match numP l2 with
      | .error e => .error e
      | .ok (c, l3) => match listP l3 with
        | .error e => .error e
        | .ok (z, l4) => .ok (⟨a, ⟨b, c, z⟩⟩, l4)
def actsP : Nat → List Int → Except Int (List S54 × List Int)
  | 0, l => .ok ([], l)
  | n + 1, l => match actP l with
    | .error e => .error e
    | .ok (x, l1) => match actsP n l1 with
      | .error e => .error e
      | .ok (xs, l2) => .ok (x :: xs, l2)
def finA (a b c d p : Int) (up : List (List Int)) (acc : List S54) : Except Int (List S54 × List Int) → Except Int Scr
  | .error e => .error e
  | .ok (xs, []) => .ok ⟨a, b, c, d, p, up, acc ++ xs⟩
  | .ok (_, _ :: _) => .error 20
def finU (a b c d p : Int) (acc : List (List Int)) : Except Int (List (List Int) × List Int) → Except Int Scr
  | .error e => .error e
  | .ok (us, l) => match manyP 4096 l with
    | .error e => .error e
    | .ok (m, l1) => finA a b c d p (acc ++ us) [] (actsP m l1)
def unscriptP (l : List Int) : Except Int Scr :=
  match numP l with
  | .error e => .error e
  | .ok (a, l1) => match numP l1 with
    | .error e => .error e
    | .ok (b, l2) => match numP l2 with
      | .error e => .error e
      | .ok (c, l3) => match numP l3 with
        | .error e => .error e
        | .ok (d, l4) => match wordP l4 with
          | .error e => .error e
          | .ok (p, l5) => match manyP 256 l5 with
            | .error e => .error e
            | .ok (n, l6) => finU a b c d (p : Int) [] (listsP n l6)
def zScr : Scr := ⟨0, 0, 0, 0, 0, [], []⟩
def pack_Unscript.f (l0 : List Int) : Option (Scr × Int) := if l0.length ≤ 2000000 ∧ (l0.all fun c => decide (0 ≤ c) && decide (c ≤ 255)) = true then some (outP zScr (unscriptP l0)) else none
theorem lists_err {n i : Nat} {acc : List (List Int)} {l : List Int} {ee a b c d p : Int} (h : i < n) (he : listP l = .error ee) : finU a b c d p acc (listsP (n - i) l) = .error ee := by
  rw [show n - i = (n - i - 1) + 1 by omega]
  simp only [listsP, he, finU]
theorem lists_next {n i : Nat} {acc : List (List Int)} {l l1 : List Int} {x : List Int} {a b c d p : Int} (h : i < n) (he : listP l = .ok (x, l1)) : finU a b c d p acc (listsP (n - i) l) = finU a b c d p (acc ++ [x]) (listsP (n - (i + 1)) l1) := by
  rw [show n - i = (n - (i + 1)) + 1 by omega]
  simp only [listsP, he]
  cases listsP (n - (i + 1)) l1 with
  | error e => rfl
  | ok q =>
    obtain ⟨xs, r⟩ := q
    simp [finU]
theorem acts_err {n i : Nat} {up : List (List Int)} {acc : List S54} {l : List Int} {ee a b c d p : Int} (h : i < n) (he : actP l = .error ee) : finA a b c d p up acc (actsP (n - i) l) = .error ee := by
  rw [show n - i = (n - i - 1) + 1 by omega]
  simp only [actsP, he, finA]
theorem acts_next {n i : Nat} {up : List (List Int)} {acc : List S54} {l l1 : List Int} {x : S54} {a b c d p : Int} (h : i < n) (he : actP l = .ok (x, l1)) : finA a b c d p up acc (actsP (n - i) l) = finA a b c d p up (acc ++ [x]) (actsP (n - (i + 1)) l1) := by
  rw [show n - i = (n - (i + 1)) + 1 by omega]
  simp only [actsP, he]
  cases actsP (n - (i + 1)) l1 with
  | error e => rfl
  | ok q =>
    obtain ⟨xs, r⟩ := q
    cases r with
    | nil => simp [finA]
    | cons c r => rfl
theorem outp_err {α : Type} {z r1 : α} {r2 ee : Int} {x : Except Int α} (h : outP z x = (r1, r2)) (he : x = .error ee) : r1 = z ∧ r2 = ee := by
  rw [he] at h
  simp only [outP, Prod.mk.injEq] at h
  exact ⟨h.1.symm, h.2.symm⟩
theorem outp_ok {α : Type} {z r1 y : α} {r2 : Int} {x : Except Int α} (h : outP z x = (r1, r2)) (he : x = .ok y) : r1 = y ∧ r2 = 0 := by
  rw [he] at h
  simp only [outP, Prod.mk.injEq] at h
  exact ⟨h.1.symm, h.2.symm⟩
structure Us (w : World) (gs ge gr : Nat) (okU okA : Nat → Prop) (W : World) (h0 h1 h2 h3 h4 vu va : Value) (up : List (List Int)) (acc : List S54) : Prop where
  g1 : w.heap.size ≤ gs
  g2 : w.heap.size ≤ ge
  n1 : gs ≠ ge
  n2 : gs ≠ gr
  n3 : ge ≠ gr
  bl : W.heap[gs]? = some (.cells #[h0, h1, h2, h3, h4, vu, va] 28 (0, 0))
  be : W.heap[ge]? = some (.cells #[.int .i64 0] 34 (0, 0))
  SU : Kd.S kU 50 W w.heap.size okU vu up
  SA : Kd.S k54 54 W w.heap.size okA va acc
section
variable {w W W' : World} {gs ge gr gx : Nat} {okU okA ok' ok2 : Nat → Prop} {h0 h1 h2 h3 h4 h0' h1' h2' h3' h4' vu va v1 : Value} {up up1 : List (List Int)} {acc acc1 : List S54} {l : List Int}
theorem Us.below (h : Us w gs ge gr okU okA W h0 h1 h2 h3 h4 vu va up acc) (hb : Below W.heap.size W W') : Us w gs ge gr okU okA W' h0 h1 h2 h3 h4 vu va up acc :=
  ⟨h.g1, h.g2, h.n1, h.n2, h.n3, (hb.block _ (blk_sz h.bl)).trans h.bl, (hb.block _ (blk_sz h.be)).trans h.be, Kd.S_below h.SU hb, Kd.S_below h.SA hb⟩
theorem Us.keep (h : Us w gs ge gr okU okA W h0 h1 h2 h3 h4 vu va up acc) (hR : Rd w gr W l) (hk : KeepBut W W' gr none) : Us w gs ge gr okU okA W' h0 h1 h2 h3 h4 vu va up acc := by
  obtain ⟨A, c, h1, _, _⟩ := hR.blk
  exact ⟨h.g1, h.g2, h.n1, h.n2, h.n3, hk.blk h.bl h.n2 (by simp), hk.blk h.be h.n3 (by simp), Kd.S_mono (Kd.S_keep (Kd.S_types h.SU h1 (by decide)) hk (fun _ hk => hk.2)) (fun _ hk => hk.1), Kd.S_mono (Kd.S_keep (Kd.S_types h.SA h1 (by decide)) hk (fun _ hk => hk.2)) (fun _ hk => hk.1)⟩
theorem Us.mono (h : Us w gs ge gr okU okA W h0 h1 h2 h3 h4 vu va up acc) (hu : ∀ k, okU k → ok' k) (ha : ∀ k, okA k → ok2 k) : Us w gs ge gr ok' ok2 W h0 h1 h2 h3 h4 vu va up acc := ⟨h.g1, h.g2, h.n1, h.n2, h.n3, h.bl, h.be, Kd.S_mono h.SU hu, Kd.S_mono h.SA ha⟩
theorem Us.bound (h : Us w gs ge gr okU okA W h0 h1 h2 h3 h4 vu va up acc) : Us w gs ge gr (fun k => okU k ∧ k < W.heap.size) (fun k => okA k ∧ k < W.heap.size) W h0 h1 h2 h3 h4 vu va up acc := ⟨h.g1, h.g2, h.n1, h.n2, h.n3, h.bl, h.be, Kd.S_mono (Kd.S_bound h.SU) (fun _ hk => ⟨hk.1, hk.2.2.1⟩), Kd.S_mono (Kd.S_bound h.SA) (fun _ hk => ⟨hk.1, hk.2.2.1⟩)⟩
theorem Us.far (h : Us w gs ge gr okU okA W h0 h1 h2 h3 h4 vu va up acc) (e1 : gx ≠ gs) (e2 : gx ≠ ge) (hu : ∀ k, okU k → k ≠ gx) (ha : ∀ k, okA k → k ≠ gx) (j : Nat) (u : Value) : Us w gs ge gr okU okA (W.setCell ⟨gx, j, none⟩ u) h0 h1 h2 h3 h4 vu va up acc :=
  ⟨h.g1, h.g2, h.n1, h.n2, h.n3, (Below.heap_setCell W ⟨gx, j, none⟩ u gs (fun e => e1 e.symm)).trans h.bl, (Below.heap_setCell W ⟨gx, j, none⟩ u ge (fun e => e2 e.symm)).trans h.be, Kd.S_far h.SU (p := ⟨gx, j, none⟩) hu u, Kd.S_far h.SA (p := ⟨gx, j, none⟩) ha u⟩
theorem Us.put (h : Us w gs ge gr okU okA W h0 h1 h2 h3 h4 vu va up acc) (j : Nat) (u : Value) (e : (#[h0, h1, h2, h3, h4, vu, va] : Array Value).setIfInBounds j u = #[h0', h1', h2', h3', h4', vu, va]) : Us w gs ge gr okU okA (W.setCell ⟨gs, j, none⟩ u) h0' h1' h2' h3' h4' vu va up acc :=
  ⟨h.g1, h.g2, h.n1, h.n2, h.n3, e ▸ blk_set h.bl j u, (Below.heap_setCell W ⟨gs, j, none⟩ u ge (fun e => h.n1 e.symm)).trans h.be, Kd.S_set h.SU h.bl (by decide) j u, Kd.S_set h.SA h.bl (by decide) j u⟩
theorem Us.pushU (h : Us w gs ge gr okU okA W h0 h1 h2 h3 h4 vu va up acc) (hg : W.grownBy W' vu.ownBlock) (hS : Kd.S kU 50 W' w.heap.size ok' v1 up1) : Us w gs ge gr ok' okA (W'.setCell ⟨gs, 5, none⟩ v1) h0 h1 h2 h3 h4 v1 va up1 acc := by
  have hbl := (hg.block _ (blk_sz h.bl) (Kd.R_ne (Kd.S_R h.SU) h.bl (by decide))).trans h.bl
  have hbe := (hg.block _ (blk_sz h.be) (Kd.R_ne (Kd.S_R h.SU) h.be (by decide))).trans h.be
  have hSA := Kd.S_over' h.SA (Kd.S_typed h.SU) (by decide) hg
  exact ⟨h.g1, h.g2, h.n1, h.n2, h.n3, blk_set hbl 5 v1, (Below.heap_setCell W' ⟨gs, 5, none⟩ v1 ge (fun e => h.n1 e.symm)).trans hbe, Kd.S_set hS hbl (by decide) 5 v1, Kd.S_set hSA hbl (by decide) 5 v1⟩
theorem Us.pushA (h : Us w gs ge gr okU okA W h0 h1 h2 h3 h4 vu va up acc) (hg : W.grownBy W' va.ownBlock) (hS : Kd.S k54 54 W' w.heap.size ok' v1 acc1) : Us w gs ge gr okU ok' (W'.setCell ⟨gs, 6, none⟩ v1) h0 h1 h2 h3 h4 vu v1 up acc1 := by
  have hbl := (hg.block _ (blk_sz h.bl) (Kd.R_ne (Kd.S_R h.SA) h.bl (by decide))).trans h.bl
  have hbe := (hg.block _ (blk_sz h.be) (Kd.R_ne (Kd.S_R h.SA) h.be (by decide))).trans h.be
  have hSU := Kd.S_over' h.SU (Kd.S_typed h.SA) (by decide) hg
  exact ⟨h.g1, h.g2, h.n1, h.n2, h.n3, blk_set hbl 6 v1, (Below.heap_setCell W' ⟨gs, 6, none⟩ v1 ge (fun e => h.n1 e.symm)).trans hbe, Kd.S_set hSU hbl (by decide) 6 v1, Kd.S_set hS hbl (by decide) 6 v1⟩
theorem Us.rdU (h : Us w gs ge gr okU okA W h0 h1 h2 h3 h4 vu va up acc) (hR : Rd w gr W l) (hg : W.grownBy W' vu.ownBlock) : Rd w gr (W'.setCell ⟨gs, 5, none⟩ v1) l := by
  obtain ⟨A, c, e1, _, _⟩ := hR.blk
  refine (hR.grown hg (fun k hk => ⟨Kd.S_base h.SU k hk, fun e => ?_⟩)).other h.n2 h.g1 5 v1
  subst e
  exact Kd.R_ne (Kd.S_R h.SU) e1 (by decide) hk.symm
theorem Us.rdA (h : Us w gs ge gr okU okA W h0 h1 h2 h3 h4 vu va up acc) (hR : Rd w gr W l) (hg : W.grownBy W' va.ownBlock) : Rd w gr (W'.setCell ⟨gs, 6, none⟩ v1) l := by
  obtain ⟨A, c, e1, _, _⟩ := hR.blk
  refine (hR.grown hg (fun k hk => ⟨Kd.S_base h.SA k hk, fun e => ?_⟩)).other h.n2 h.g1 6 v1
  subst e
  exact Kd.R_ne (Kd.S_R h.SA) e1 (by decide) hk.symm
end
theorem leaves_same {P : Program} {fn : Func} {t t' : Array Value} {R : Ending → World → Prop} (h : results fn t = results fn t') : ∀ (ds : List Deferred) (u : FrameMode) (w : World), Leaves P fn t R ds u w → Leaves P fn t' R ds u w := by
  intro ds
  induction ds with
  | nil =>
    intro u w hl
    cases u with
    | returning =>
      obtain ⟨v, h1, h2⟩ := hl
      exact ⟨v, h ▸ h1, h2⟩
    | panicking c => exact hl
    | run => exact hl.elim
  | cons d ds ih =>
    intro u w hl
    obtain ⟨h0, fv, cap, f, args, h1, h2, h3⟩ := hl
    refine ⟨h0, fv, cap, f, args, h1, h2, h3.mono fun e u' w' hh => ?_⟩
    cases e with
    | returned v => exact ih _ _ hh
    | panicked c => exact ih _ _ hh
    | outgrown => exact hh
theorem res14 (a : Act) (s : Tmp) (v : Value) (h2 : s ≠ 2) (h3 : s ≠ 3) : results Try.f14 (a.put (some s) v).tmps = results Try.f14 a.tmps := by
  simp only [results, Try.results14, Act.put]
  have e2 : (a.tmps.setIfInBounds s v).getD 2 undef = a.tmps.getD 2 undef := by simp [Array.getElem?_setIfInBounds_ne h2]
  have e3 : (a.tmps.setIfInBounds s v).getD 3 undef = a.tmps.getD 3 undef := by simp [Array.getElem?_setIfInBounds_ne h3]
  simp [e2, e3, Array.getElem?_setIfInBounds_ne h2, Array.getElem?_setIfInBounds_ne h3]
theorem goesP_ {P : Program} {ops : Array Oper} {Q : Exit → Act → World → Prop} {oi : Oper} {N : Option Tmp} {a : Act} {w : World} {K : Act → World → Prop} {f : FuncId} {fn : Func} {xs : Array Operand} {ts : Array TypeId} (hf : P.funcs[f]? = some fn) (hname : (fn.name == "runtime.NumGoroutine") = false) (hb : fn.body.isSome = true) (args : Array Value)
    (hw : Region.wanted oi (yielded ops a.tmps) = true) (hN : oi.dst = N) (hop : oi.op = .call { callee := .value (.func f), args := xs, argTypes := ts }) (hargs : xs.map a.eval = args)
    (h : Calls P f args w fun e w' => (∃ v, e = .returned v ∧ K (a.put N v) w') ∨ (∃ c, e = .panicked c ∧ Q (.panic c) a w')) : if Region.wanted oi (yielded ops a.tmps) = true then Oper.wp P oi a w K Q else K (a.put N undef) w := by
  have hrun : (execOp a.eval oi).run P w = .ok (.enter f args) w := by
    have he := enters_ hf hname hb args w
    unfold execOp
    simp [hop, resolve, Deferred.ofValue, invoke, Act.eval, hargs, he]
  rw [if_pos hw]
  subst hN
  unfold Oper.wp
  rw [hrun, Oper.upon_enter]
  refine h.mono fun e w'' hh => ?_
  rcases hh with ⟨v, rfl, hk⟩ | ⟨c, rfl, hk⟩
  · exact hk
  · exact hk
theorem uns_res {tmps : Array Value} {gs ge : Nat} {v0 v1 v2 v3 v4 v5 v6 x : Value} {W : World} (h2 : tmps[2]? = some (.pointer (some ⟨gs, 0, none⟩))) (h3 : tmps[3]? = some (.pointer (some ⟨ge, 0, none⟩))) (hl : W.heap[gs]? = some (.cells #[v0, v1, v2, v3, v4, v5, v6] 28 (0, 0))) (he : W.heap[ge]? = some (.cells #[x] 34 (0, 0))) :
    (results Try.f14 tmps).run Try.prog W = .ok (.tuple #[.agg #[v0, v1, v2, v3, v4, v5, v6], x]) W := by
  have e0 : W.cell? ⟨gs, 0, none⟩ = some v0 := (blk_cell hl 0).trans rfl
  have e1 : W.cell? ⟨gs, 1, none⟩ = some v1 := (blk_cell hl 1).trans rfl
  have e2 : W.cell? ⟨gs, 2, none⟩ = some v2 := (blk_cell hl 2).trans rfl
  have e3 : W.cell? ⟨gs, 3, none⟩ = some v3 := (blk_cell hl 3).trans rfl
  have e4 : W.cell? ⟨gs, 4, none⟩ = some v4 := (blk_cell hl 4).trans rfl
  have e5 : W.cell? ⟨gs, 5, none⟩ = some v5 := (blk_cell hl 5).trans rfl
  have e6 : W.cell? ⟨gs, 6, none⟩ = some v6 := (blk_cell hl 6).trans rfl
  have h4 : W.cell? ⟨ge, 0, none⟩ = some x := (blk_cell he 0).trans rfl
  simp [results, Try.results14, go_sem, h2, h3, e0, e1, e2, e3, e4, e5, e6, h4]
theorem uns_thrown {R : Ending → World → Prop} {tmps : Array Value} {w W : World} {gs ge gr : Nat} {okU okA : Nat → Prop} {h0 h1 h2 h3 h4 vu va : Value} {up : List (List Int)} {acc : List S54} {l : List Int} (ee : Int) (hee : ee ≠ 0) (hU : Us w gs ge gr okU okA W h0 h1 h2 h3 h4 vu va up acc) (hR : Rd w gr W l) (e2 : tmps[2]? = some (.pointer (some ⟨gs, 0, none⟩))) (e3 : tmps[3]? = some (.pointer (some ⟨ge, 0, none⟩)))
    (hfin : ∀ w', Below w.heap.size w w' → R (.returned (.tuple #[.agg #[.int .i64 0, .int .i64 0, .int .i64 0, .int .i64 0, .int .u64 0, .slice none 0 0, .slice none 0 0], .int .i64 ee])) w') :
    Leaves Try.prog Try.f14 tmps R [{ target := .fn (.func 29) #[.pointer (some ⟨ge, 0, none⟩), .pointer (some ⟨gs, 0, none⟩)], args := #[] }] (.panicking (flt ee)) W := by
  refine leaves_cons (f := 29) (args := #[.pointer (some ⟨ge, 0, none⟩), .pointer (some ⟨gs, 0, none⟩)]) (by simp) (by simp [go_sem]) ?_
  refine (unsX_pan ge gs (fun e => hU.n1 e.symm) 0 ee hee _ _ _ _ _ _ _ W hU.be hU.bl).mono ?_
  rintro e u' w' ⟨rfl, rfl, W1, hb, rfl⟩
  have hU1 := hU.below hb
  have he1 := blk_set hU1.be 0 (.int .i64 ee)
  have hl1 := (Below.heap_setCell W1 ⟨ge, 0, none⟩ (.int .i64 ee) gs hU.n1).trans hU1.bl
  have hl2 := Ivs.stored (new := #[.int .i64 0, .int .i64 0, .int .i64 0, .int .i64 0, .int .u64 0, .slice none 0 0, .slice none 0 0]) hl1 rfl
  have he2 := (Ivs.stored_other (g := gs) (j := ge) (fun e => hU.n1 e.symm) [.int .i64 0, .int .i64 0, .int .i64 0, .int .i64 0, .int .u64 0, .slice none 0 0, .slice none 0 0] 0 (W1.setCell ⟨ge, 0, none⟩ (.int .i64 ee))).trans he1
  have hB := Ivs.below_stored (g := gs) [.int .i64 0, .int .i64 0, .int .i64 0, .int .i64 0, .int .u64 0, .slice none 0 0, .slice none 0 0] 0 _ ((hR.below.trans (hb.mono (by have := hR.below.size; omega))).setCell hU.g2 (.int .i64 ee) (p := ⟨ge, 0, none⟩)) hU.g1
  exact ⟨_, uns_res e2 e3 hl2 he2, hfin _ hB⟩
theorem uns_left {R : Ending → World → Prop} {tmps : Array Value} {w W : World} {gs ge gr : Nat} {okU okA : Nat → Prop} {h0 h1 h2 h3 h4 vu va : Value} {up : List (List Int)} {acc : List S54} {l : List Int} (hU : Us w gs ge gr okU okA W h0 h1 h2 h3 h4 vu va up acc) (hR : Rd w gr W l) (e2 : tmps[2]? = some (.pointer (some ⟨gs, 0, none⟩))) (e3 : tmps[3]? = some (.pointer (some ⟨ge, 0, none⟩)))
    (hfin : ∀ w', Kd.S kU 50 w' w.heap.size (fun _ => True) vu up → Kd.S k54 54 w' w.heap.size (fun _ => True) va acc → Below w.heap.size w w' → R (.returned (.tuple #[.agg #[h0, h1, h2, h3, h4, vu, va], .int .i64 0])) w') :
    Leaves Try.prog Try.f14 tmps R [{ target := .fn (.func 29) #[.pointer (some ⟨ge, 0, none⟩), .pointer (some ⟨gs, 0, none⟩)], args := #[] }] .returning ((W.setCells gs 0 [h0, h1, h2, h3, h4, vu, va]).setCell ⟨ge, 0, none⟩ (.int .i64 0)) := by
  have hl0 := Ivs.stored (new := #[h0, h1, h2, h3, h4, vu, va]) hU.bl rfl
  have he0 := (Ivs.stored_other (g := gs) (j := ge) (fun e => hU.n1 e.symm) [h0, h1, h2, h3, h4, vu, va] 0 W).trans hU.be
  have hB0 := Ivs.below_stored (g := gs) [h0, h1, h2, h3, h4, vu, va] 0 _ hR.below hU.g1
  have hSU0 := Kd.S_mono (Kd.S_step (Kd.S_types hU.SU hU.bl (by decide)) (w1 := W.setCells gs 0 [h0, h1, h2, h3, h4, vu, va]) (fun k hk _ => Ivs.stored_other hk.2 _ 0 W)) (ok' := fun _ => True) (fun _ _ => trivial)
  have hSA0 := Kd.S_mono (Kd.S_step (Kd.S_types hU.SA hU.bl (by decide)) (w1 := W.setCells gs 0 [h0, h1, h2, h3, h4, vu, va]) (fun k hk _ => Ivs.stored_other hk.2 _ 0 W)) (ok' := fun _ => True) (fun _ _ => trivial)
  have hU0 : Us w gs ge gr (fun _ => True) (fun _ => True) (W.setCells gs 0 [h0, h1, h2, h3, h4, vu, va]) h0 h1 h2 h3 h4 vu va up acc := ⟨hU.g1, hU.g2, hU.n1, hU.n2, hU.n3, hl0, he0, hSU0, hSA0⟩
  clear hl0 he0 hSU0 hSA0
  generalize W.setCells gs 0 [h0, h1, h2, h3, h4, vu, va] = W2 at *
  have hl1 := (Below.heap_setCell W2 ⟨ge, 0, none⟩ (.int .i64 0) gs hU.n1).trans hU0.bl
  have he1 := blk_set hU0.be 0 (.int .i64 0)
  have hSU1 := Kd.S_set hU0.SU hU0.be (by decide) 0 (.int .i64 0)
  have hSA1 := Kd.S_set hU0.SA hU0.be (by decide) 0 (.int .i64 0)
  have hB1 := hB0.setCell hU.g2 (.int .i64 0) (p := ⟨ge, 0, none⟩)
  clear hU0 hB0
  generalize W2.setCell ⟨ge, 0, none⟩ (.int .i64 0) = W3 at *
  refine leaves_cons (f := 29) (args := #[.pointer (some ⟨ge, 0, none⟩), .pointer (some ⟨gs, 0, none⟩)]) (by simp) (by simp [go_sem]) ?_
  refine (unsX_ret ge gs 0 W3 he1).mono ?_
  rintro e u' w' ⟨rfl, rfl, W1, hb, rfl⟩
  have hl2 := (hb.block _ (blk_sz hl1)).trans hl1
  have he2 := (hb.block _ (blk_sz he1)).trans he1
  have hl3 := (Below.heap_setCell W1 ⟨ge, 0, none⟩ (.int .i64 0) gs hU.n1).trans hl2
  have he3 := blk_set he2 0 (.int .i64 0)
  have hSU3 := Kd.S_set (Kd.S_below hSU1 hb) he2 (by decide) 0 (.int .i64 0)
  have hSA3 := Kd.S_set (Kd.S_below hSA1 hb) he2 (by decide) 0 (.int .i64 0)
  have hB2 := (hB1.trans (hb.mono (by have := hB1.size; omega))).setCell hU.g2 (.int .i64 0) (p := ⟨ge, 0, none⟩)
  exact ⟨_, uns_res e2 e3 hl3 he3, hfin _ hSU3 hSA3 hB2⟩
set_option maxHeartbeats 8000000 in
set_option maxRecDepth 100000 in
theorem pack_Unscript.calls (A0 : Option Addr) (c0 : Nat) (l0 : List Int) (r1 : Scr) (r2 : Int) (w : World) (hr0 : Kd.C (Kd.int .u8) w A0 l0.length l0) (hc0 : l0.length ≤ c0) (h : pack_Unscript.f l0 = some (r1, r2)) :
    Calls Try.prog 14 #[.slice A0 l0.length c0] w fun e w' => ∃ (A5 A6 : Option Addr) (c5 c6 : Nat), e = .returned (.tuple #[.agg #[.int .i64 r1.a, .int .i64 r1.b, .int .i64 r1.c, .int .i64 r1.d, .int .u64 r1.p, .slice A5 r1.up.length c5, .slice A6 r1.acts.length c6], .int .i64 r2]) ∧ Kd.C kU w' A5 r1.up.length r1.up ∧ r1.up.length ≤ c5 ∧ Kd.C k54 w' A6 r1.acts.length r1.acts ∧ r1.acts.length ≤ c6 ∧ Below w.heap.size w w' := by
  have hmf : ∀ (fn : Fn) (first cap : Array Value) (w : World), (Instr.makeFunc fn first cap).run Try.prog w = .ok (.func fn first cap) w := fun _ _ _ _ => rfl
  have HC0 := Aside0.mk hr0
  have HC1 := Aside0.mk hc0
  have hg : l0.length ≤ 2000000 ∧ (l0.all fun c => decide (0 ≤ c) && decide (c ≤ 255)) = true := by
    unfold pack_Unscript.f at h
    split at h
    · assumption
    · cases h
  unfold pack_Unscript.f at h
  rw [if_pos hg] at h
  have HG := Aside0.mk hg
  have H := Aside0.mk (Option.some.inj h)
  have HT := Aside0.mk (fun (ee : Int) (he : unscriptP l0 = .error ee) (w' : World) (hb : Below w.heap.size w w') => (show ∃ (A5 A6 : Option Addr) (c5 c6 : Nat), Ending.returned (.tuple #[.agg #[.int .i64 0, .int .i64 0, .int .i64 0, .int .i64 0, .int .u64 0, .slice none 0 0, .slice none 0 0], .int .i64 ee]) = .returned (.tuple #[.agg #[.int .i64 r1.a, .int .i64 r1.b, .int .i64 r1.c, .int .i64 r1.d, .int .u64 r1.p, .slice A5 r1.up.length c5, .slice A6 r1.acts.length c6], .int .i64 r2]) ∧ Kd.C kU w' A5 r1.up.length r1.up ∧ r1.up.length ≤ c5 ∧ Kd.C k54 w' A6 r1.acts.length r1.acts ∧ r1.acts.length ≤ c6 ∧ Below w.heap.size w w' by
    obtain ⟨rfl, rfl⟩ := outp_err H.out he
    exact ⟨none, none, 0, 0, rfl, ⟨rfl, Nat.zero_le _, fun h => absurd h (Nat.lt_irrefl 0)⟩, Nat.le_refl _, ⟨rfl, Nat.zero_le _, fun h => absurd h (Nat.lt_irrefl 0)⟩, Nat.le_refl _, hb⟩))
  clear h hg hr0 hc0
  go_enter_defers Try.func14, Try.ntmps14
  go_upto_region 4 with (fail)
  have hb0 := below_alloc (Below.refl w.heap.size w) (.cells #[.int .i64 0, .int .i64 0, .int .i64 0, .int .i64 0, .int .u64 0, .slice none 0 0, .slice none 0 0] 28)
  have hbl := blk_new w (.cells #[.int .i64 0, .int .i64 0, .int .i64 0, .int .i64 0, .int .u64 0, .slice none 0 0, .slice none 0 0] 28)
  generalize hW1 : w.alloc (.cells #[.int .i64 0, .int .i64 0, .int .i64 0, .int .i64 0, .int .u64 0, .slice none 0 0, .slice none 0 0] 28) = W1 at *
  have hs1 : W1.heap.size = w.heap.size + 1 := by rw [← hW1]; simp
  have hb1 : Below W1.heap.size _ _ := below_alloc (Below.refl _ W1) (.cells #[.int .i64 0] 34)
  have hbe := blk_new W1 (.cells #[.int .i64 0] 34)
  generalize hW2 : W1.alloc (.cells #[.int .i64 0] 34) = W2 at *
  have hs2 : W2.heap.size = w.heap.size + 1 + 1 := by rw [← hW2]; simp [hs1]
  have hb2 : Below W2.heap.size _ _ := below_alloc (Below.refl _ W2) (.cells #[.slice A0 l0.length c0] 70)
  have hbr := blk_new W2 (.cells #[.slice A0 l0.length c0] 70)
  rw [hs1] at hbe hb1
  rw [hs2] at hbr hb2
  have hbl2 := (hb2.block w.heap.size (by omega)).trans ((hb1.block w.heap.size (by omega)).trans hbl)
  have hbe2 := (hb2.block (w.heap.size + 1) (by omega)).trans hbe
  have hU : Us w w.heap.size (w.heap.size + 1) (w.heap.size + 1 + 1) (fun _ => True) (fun _ => True) _ (.int .i64 0) (.int .i64 0) (.int .i64 0) (.int .i64 0) (.int .u64 0) (.slice none 0 0) (.slice none 0 0) [] [] := ⟨Nat.le_refl _, by omega, by omega, by omega, by omega, hbl2, hbe2, Kd.S_nil _ _ _ _ _, Kd.S_nil _ _ _ _ _⟩
  have hR : Rd w (w.heap.size + 1 + 1) _ l0 := ⟨fun c hc => by have := List.all_eq_true.1 HG.out.2 c hc; simpa using this, HG.out.1, (hb0.trans (hb1.mono (by omega))).trans (hb2.mono (by omega)), by omega, A0, c0, hbr, HC0.out, HC1.out⟩
  clear hbl hb1 hb0 hbe hb2 hbr hs1 hs2 hbl2 hbe2 hW2 hW1
  generalize W2.alloc (.cells #[.slice A0 l0.length c0] 70) = W at *
  obtain ⟨gr, hgr⟩ : ∃ gr, gr = w.heap.size + 1 + 1 := ⟨_, rfl⟩
  obtain ⟨ge, hge⟩ : ∃ ge, ge = w.heap.size + 1 := ⟨_, rfl⟩
  obtain ⟨gs, hgs⟩ : ∃ gs, gs = w.heap.size := ⟨_, rfl⟩
  rw [← hgr] at hR hU ⊢
  rw [← hge] at hU ⊢
  rw [← hgs]
  have hU : Us w gs ge gr (fun _ => True) (fun _ => True) W (.int .i64 0) (.int .i64 0) (.int .i64 0) (.int .i64 0) (.int .u64 0) (.slice none 0 0) (.slice none 0 0) [] [] := by rw [hgs]; exact hU
  clear hgr hge hgs
  have HU0 := Aside0.mk hU
  have HR0 := Aside0.mk hR
  clear hU hR
  go_wp2_with (fail)
  go_at_call 31
  (with_reducible refine (rdnum gr l0 w _ HR0.out).mono ?_)
  rintro e Wc1 ⟨hk, ⟨a, m1, h1, _, rfl, hr⟩ | ⟨ee, h1, h0, rfl, hr⟩⟩
  rotate_left
  · go_wp2
    exact uns_thrown ee h0 (HU0.out.keep HR0.out hk) hr rfl rfl (fun w' hb => HT.out ee (by simp only [unscriptP, h1]) w' hb)
  have HU1 := Aside0.mk (HU0.out.keep HR0.out hk)
  have HR1 := Aside0.mk hr
  have Ha := Aside0.mk h1
  clear hr h1 hk HU0 HR0
  go_wp2_with (fail)
  go_at_call 31
  (with_reducible refine (rdnum gr m1 w _ HR1.out).mono ?_)
  rintro e Wc2 ⟨hk, ⟨b, m2, h1, _, rfl, hr⟩ | ⟨ee, h1, h0, rfl, hr⟩⟩
  rotate_left
  · go_wp2
    exact uns_thrown ee h0 (HU1.out.keep HR1.out hk) hr rfl rfl (fun w' hb => HT.out ee (by simp only [unscriptP, Ha.out, h1]) w' hb)
  have HU2 := Aside0.mk (HU1.out.keep HR1.out hk)
  have HR2 := Aside0.mk hr
  have Hb := Aside0.mk h1
  clear hr h1 hk HU1 HR1
  go_wp2_with (fail)
  go_at_call 31
  (with_reducible refine (rdnum gr m2 w _ HR2.out).mono ?_)
  rintro e Wc3 ⟨hk, ⟨c, m3, h1, _, rfl, hr⟩ | ⟨ee, h1, h0, rfl, hr⟩⟩
  rotate_left
  · go_wp2
    exact uns_thrown ee h0 (HU2.out.keep HR2.out hk) hr rfl rfl (fun w' hb => HT.out ee (by simp only [unscriptP, Ha.out, Hb.out, h1]) w' hb)
  have HU3 := Aside0.mk (HU2.out.keep HR2.out hk)
  have HR3 := Aside0.mk hr
  have Hc := Aside0.mk h1
  clear hr h1 hk HU2 HR2
  go_wp2_with (fail)
  go_at_call 31
  (with_reducible refine (rdnum gr m3 w _ HR3.out).mono ?_)
  rintro e Wc4 ⟨hk, ⟨d, m4, h1, _, rfl, hr⟩ | ⟨ee, h1, h0, rfl, hr⟩⟩
  rotate_left
  · go_wp2
    exact uns_thrown ee h0 (HU3.out.keep HR3.out hk) hr rfl rfl (fun w' hb => HT.out ee (by simp only [unscriptP, Ha.out, Hb.out, Hc.out, h1]) w' hb)
  have HU4 := Aside0.mk (HU3.out.keep HR3.out hk)
  have HR4 := Aside0.mk hr
  have Hd := Aside0.mk h1
  clear hr h1 hk HU3 HR3
  have hc0 : Wc4.cell? ⟨gs, 0, none⟩ = some (.int .i64 0) := (blk_cell HU4.out.bl 0).trans rfl
  have hf0 := blk_frozen HU4.out.bl 0
  have hc1 : Wc4.cell? ⟨gs, 1, none⟩ = some (.int .i64 0) := (blk_cell HU4.out.bl 1).trans rfl
  have hf1 := blk_frozen HU4.out.bl 1
  have hc2 : Wc4.cell? ⟨gs, 2, none⟩ = some (.int .i64 0) := (blk_cell HU4.out.bl 2).trans rfl
  have hf2 := blk_frozen HU4.out.bl 2
  have hc3 : Wc4.cell? ⟨gs, 3, none⟩ = some (.int .i64 0) := (blk_cell HU4.out.bl 3).trans rfl
  have hf3 := blk_frozen HU4.out.bl 3
  go_upto_region 5 with (fail)
  have hU := ((((HU4.out.put 0 (.int .i64 a) rfl).put 1 (.int .i64 b) rfl).put 2 (.int .i64 c) rfl).put 3 (.int .i64 d) rfl)
  have hR := ((((HR4.out.other HU4.out.n2 HU4.out.g1 0 (.int .i64 a)).other HU4.out.n2 HU4.out.g1 1 (.int .i64 b)).other HU4.out.n2 HU4.out.g1 2 (.int .i64 c)).other HU4.out.n2 HU4.out.g1 3 (.int .i64 d))
  generalize ((((Wc4.setCell ⟨gs, 0, none⟩ (.int .i64 a)).setCell ⟨gs, 1, none⟩ (.int .i64 b)).setCell ⟨gs, 2, none⟩ (.int .i64 c)).setCell ⟨gs, 3, none⟩ (.int .i64 d)) = Ws4 at *
  have HU5 := Aside0.mk hU
  have HR5 := Aside0.mk hR
  clear hU hR HU4 HR4 hc0 hf0 hc1 hf1 hc2 hf2 hc3 hf3
  go_wp2_with (fail)
  go_at_call 32
  (with_reducible refine (rdword gr m4 w _ HR5.out).mono ?_)
  rintro e Wc5 ⟨hk, ⟨p, m5, h1, hx, rfl, hr⟩ | ⟨ee, h1, h0, rfl, hr⟩⟩
  rotate_left
  · go_wp2
    exact uns_thrown ee h0 (HU5.out.keep HR5.out hk) hr rfl rfl (fun w' hb => HT.out ee (by simp only [unscriptP, Ha.out, Hb.out, Hc.out, Hd.out, h1]) w' hb)
  have HU6 := Aside0.mk (HU5.out.keep HR5.out hk)
  have HR6 := Aside0.mk hr
  have Hp := Aside0.mk h1
  clear hr h1 hk HU5 HR5
  have hc4 : Wc5.cell? ⟨gs, 4, none⟩ = some (.int .u64 0) := (blk_cell HU6.out.bl 4).trans rfl
  have hf4 := blk_frozen HU6.out.bl 4
  go_upto_region 6 with (fail)
  have hU := (HU6.out.put 4 (.int .u64 (p : Int)) rfl)
  have hR := (HR6.out.other HU6.out.n2 HU6.out.g1 4 (.int .u64 (p : Int)))
  generalize (Wc5.setCell ⟨gs, 4, none⟩ (.int .u64 (p : Int))) = Ws5 at *
  have HU7 := Aside0.mk hU
  have HR7 := Aside0.mk hR
  clear hU hR HU6 HR6 hc4 hf4
  go_wp2_with (fail)
  go_at_call 33
  (refine (rdmany 256 (by decide) gr m5 w _ HR7.out).mono ?_)
  rintro e Wn ⟨hk, ⟨n, l1, h1, hn, rfl, hr⟩ | ⟨ee, h1, h0, rfl, l', hr⟩⟩
  rotate_left
  · go_wp2
    exact uns_thrown ee h0 (HU7.out.keep HR7.out hk) hr rfl rfl (fun w' hb => HT.out ee (by simp only [unscriptP, Ha.out, Hb.out, Hc.out, Hd.out, Hp.out, h1]) w' hb)
  have HF := Aside0.mk (show finU a b c d (p : Int) [] (listsP (n - 0) l1) = unscriptP l0 by simp only [unscriptP, Nat.sub_zero, Ha.out, Hb.out, Hc.out, Hd.out, Hp.out, h1])
  have HUa := Aside0.mk (HU7.out.keep HR7.out hk)
  have HRa := Aside0.mk hr
  clear hk hr h1 HU7 HR7 Ha Hb Hc Hd Hp
  go_wp2_with (fail)
  go_loopg [39] (n + 1) (fun kq v39 wc => ∃ (i : Nat) (v : Value) (acc : List (List Int)) (l' : List Int), i ≤ n ∧ n < i + kq ∧ v39 = .int .i64 (i : Int) ∧ Aside0 (acc.length = i) ∧ Aside0 (Us w gs ge gr (fun _ => True) (fun _ => True) wc (.int .i64 a) (.int .i64 b) (.int .i64 c) (.int .i64 d) (.int .u64 (p : Int)) v (.slice none 0 0) acc []) ∧ Aside0 (Rd w gr wc l') ∧ Aside0 (finU a b c d (p : Int) acc (listsP (n - i) l') = unscriptP l0))
  case atStart => exact ⟨0, _, [], l1, by omega, by omega, rfl, ⟨rfl⟩, HUa, HRa, HF⟩
  case round =>
    clear HUa HRa HF
    obtain ⟨i, v, acc, l', hi, hik, rfl, HL, HU, HR, HF⟩ := hrel
    cases gk with
    | zero => omega
    | succ g =>
    by_cases hlt : i < n
    · have c1b : decide ((i : Int) < (n : Int)) = true := decide_eq_true (by omega)
      go_upto_region 8 with (fail)
      have hd0 : Below wr.heap.size wr wr.drew := below_drew (Below.refl _ _)
      have HU1 := Aside0.mk ((HU.out.below hd0).bound)
      have HR1 := Aside0.mk (HR.out.step hd0)
      clear HU HR hd0
      obtain ⟨b9, hb9⟩ : ∃ b9, b9 = wr.drew.heap.size := ⟨_, rfl⟩
      have hwb : w.heap.size ≤ b9 := by rw [hb9]; exact HR1.out.below.size
      have hS0 : wr.drew.cell? ⟨gs, 5, none⟩ = some v := (blk_cell HU1.out.bl 5).trans rfl
      refine start_ (n := 12) (S := fun wc => wc.cell? ⟨gs, 5, none⟩ = some v) (ds := [11]) #[false, false, false, false, false, false, false, false, false, false, false, false] (by kernel_rfl) rfl rfl hS0 (fun hS => ?_)
      clear hS0
      refine pure_ (i := 0) (N := some 41) (v := ?_) (a' := ?_) #[true, false, false, false, false, false, false, false, false, false, false, false] rfl rfl (by kernel_rfl) (fun c a w h => leaves_same (res14 a 41 _ (by decide) (by decide)) _ _ _ h) (Or.inl ⟨by rfl, ?_⟩) ?_ ?_
      rotate_left
      · intro w'
        go_simp
        try (with_reducible rfl)
      rotate_left
      · simp only [Act.put, List.setIfInBounds_toArray, List.set_cons_zero, List.set_cons_succ]
        rfl
      refine pure_ (i := 1) (N := some 42) (v := ?_) (a' := ?_) #[true, true, false, false, false, false, false, false, false, false, false, false] rfl rfl (by kernel_rfl) (fun c a w h => leaves_same (res14 a 42 _ (by decide) (by decide)) _ _ _ h) (Or.inl ⟨by rfl, ?_⟩) ?_ ?_
      rotate_left
      · intro w'
        go_simp
        try (with_reducible rfl)
      rotate_left
      · simp only [Act.put, List.setIfInBounds_toArray, List.set_cons_zero, List.set_cons_succ]
        rfl
      refine pure_ (i := 2) (N := some 43) (v := ?_) (a' := ?_) #[true, true, true, false, false, false, false, false, false, false, false, false] rfl rfl (by kernel_rfl) (fun c a w h => leaves_same (res14 a 43 _ (by decide) (by decide)) _ _ _ h) (Or.inl ⟨by rfl, ?_⟩) ?_ ?_
      rotate_left
      · intro w'
        go_simp
        try (with_reducible rfl)
      rotate_left
      · simp only [Act.put, List.setIfInBounds_toArray, List.set_cons_zero, List.set_cons_succ]
        rfl
      refine pure_ (i := 3) (N := some 44) (v := ?_) (a' := ?_) #[true, true, true, true, false, false, false, false, false, false, false, false] rfl rfl (by kernel_rfl) (fun c a w h => leaves_same (res14 a 44 _ (by decide) (by decide)) _ _ _ h) (Or.inl ⟨by rfl, ?_⟩) ?_ ?_
      rotate_left
      · intro w'
        go_simp
        try (with_reducible rfl)
      rotate_left
      · simp only [Act.put, List.setIfInBounds_toArray, List.set_cons_zero, List.set_cons_succ]
        rfl
      refine take_ (i := 4) (N := some 45) (v := ?_) (a' := ?_) #[true, true, true, true, true, false, false, false, false, false, false, false] rfl rfl (by kernel_rfl) (fun c a w h => leaves_same (res14 a 45 _ (by decide) (by decide)) _ _ _ h) (Or.inl ⟨by rfl, ?_⟩) hS ?_ ?_
      rotate_left
      · intro w' hw
        simp [go_sem, hw]
        try (with_reducible rfl)
      rotate_left
      · simp only [Act.put, List.setIfInBounds_toArray, List.set_cons_zero, List.set_cons_succ]
        rfl
      refine pure_ (i := 5) (N := some 46) (v := ?_) (a' := ?_) #[true, true, true, true, true, true, false, false, false, false, false, false] rfl rfl (by kernel_rfl) (fun c a w h => leaves_same (res14 a 46 _ (by decide) (by decide)) _ _ _ h) (Or.inl ⟨by rfl, ?_⟩) ?_ ?_
      rotate_left
      · intro w'
        go_simp
        try (with_reducible rfl)
      rotate_left
      · simp only [Act.put, List.setIfInBounds_toArray, List.set_cons_zero, List.set_cons_succ]
        rfl
      refine one_ (i := 6) (N := some 47) #[true, true, true, true, true, true, true, false, false, false, false, false] rfl rfl (by kernel_rfl) (by simp) (fun K hK => ?_)
      refine goesP_ Try.func34 (by kernel_rfl) rfl #[.pointer (some ⟨gr, 0, none⟩)] (by rfl) rfl rfl (by (try simp only [List.map_toArray, List.map_cons, List.map_nil]); first | done | rfl) ?_
      (with_reducible refine (rdlist gr l' w _ HR1.out).mono ?_)
      rintro e W2 ⟨hk, ⟨z, l2, h1, ⟨vz, rfl, hvz⟩, hr⟩ | ⟨ee, h1, h0, rfl, hr⟩⟩
      rotate_left
      · refine .inr ⟨_, rfl, ?_⟩
        exact uns_thrown ee h0 (HU1.out.keep HR1.out hk) hr rfl rfl (fun w' hb => HT.out ee (HF.out.symm.trans (lists_err hlt h1)) w' hb)
      refine .inl ⟨_, rfl, ?_⟩
      obtain ⟨Az, cz, rfl⟩ := Kd.R_slice hvz
      rw [← hb9] at hvz
      have HU2 := Aside0.mk (HU1.out.keep HR1.out hk)
      rw [← hb9] at HU2
      have HR2 := Aside0.mk hr
      have hb9' : b9 ≤ W2.heap.size := by rw [hb9]; exact hk.1
      have HZ := Aside0.mk h1
      have HV := Aside0.mk hvz
      clear hvz hr h1 hk HU1 HR1 hS
      have hS2 : W2.cell? ⟨gs, 5, none⟩ = some v := (blk_cell HU2.out.bl 5).trans rfl
      refine hK.out _ _ hS2 (fun _ => ?_)
      clear hK K
      refine norm_ (a' := ?_) ?_ ?_
      rotate_left
      · simp only [Act.put, List.setIfInBounds_toArray, List.set_cons_zero, List.set_cons_succ]
        rfl
      refine one_ (i := 7) (N := some 48) #[true, true, true, true, true, true, true, true, false, false, false, false] rfl rfl (by kernel_rfl) (by simp) (fun K hK => ?_)
      refine event_step (v := .slice (some ⟨W2.heap.size, 0, none⟩) 1 1) (w1 := W2.alloc (.cells #[.slice Az z.length cz] 50)) (by rfl) ?_ ?_
      · simp [go_sem]
      have hS3 : (W2.alloc (.cells #[.slice Az z.length cz] 50)).cell? ⟨gs, 5, none⟩ = some v := (blk_cell (((below_alloc (Below.refl _ W2) (.cells #[.slice Az z.length cz] 50)).block _ (blk_sz HU2.out.bl)).trans HU2.out.bl) 5).trans rfl
      show K (Act.put _ (some 48) _) _
      refine hK.out _ _ hS3 (fun _ => ?_)
      clear hK K hS3
      refine norm_ (a' := ?_) ?_ ?_
      rotate_left
      · simp only [Act.put, List.setIfInBounds_toArray, List.set_cons_zero, List.set_cons_succ]
        rfl
      refine one_ (i := 8) (N := some 49) #[true, true, true, true, true, true, true, true, true, false, false, false] rfl rfl (by kernel_rfl) (by simp) (fun K hK => ?_)
      have hown : ∀ k, v.ownBlock = some k → k < b9 := fun k hk => ((Kd.S_R HU2.out.SU).1 k hk).2
      have hlen := HL.out
      have hsz := HU2.out.g1
      have hsz2 := blk_sz HU2.out.bl
      have hll : (acc ++ [z]).length = i + 1 := by rw [List.length_append, hlen]; rfl
      have hM : kU.M W2 w.heap.size (fun k => b9 ≤ k) z [.slice Az z.length cz] := ⟨_, rfl, Kd.R_lower (Kd.R_mono (Kd.R_bound HV.out) (fun k hk => hk.2.1)) hwb⟩
      refine Kd.S_append_step kU (w0 := w) w.heap.size (by rfl) (.tmp 45) (.tmp 48) 23 50 (.slice none 0 0) 24 rfl Try.underlying23 (by kernel_rfl) rfl (by decide) (by decide) v acc z _ (fun _ => True) (fun k => b9 ≤ k) rfl rfl hM (fun k hk => ⟨trivial, fun he => by have h1 := hown k he.symm; have h2 := hk; omega⟩) (fun _ _ => trivial) (Kd.S_mono HU2.out.SU (fun k hk => ⟨trivial, by have := hk.2; omega⟩)) HR2.out.below (by omega) (by omega) ?_
      intro v1 w1 hS1 hb1 hg1 hat1
      obtain ⟨A1, c1, rfl⟩ := Kd.R_slice (Kd.S_R hS1)
      have HU3 := Aside0.mk (HU2.out.pushU hg1 hS1)
      have HR3 := Aside0.mk (HU2.out.rdU (v1 := .slice A1 (acc ++ [z]).length c1) HR2.out hg1)
      have hbl1 := (hg1.block _ (blk_sz HU2.out.bl) (Kd.R_ne (Kd.S_R HU2.out.SU) HU2.out.bl (by decide))).trans HU2.out.bl
      have hcl1 : w1.cell? ⟨gs, 5, none⟩ = some v := (blk_cell hbl1 5).trans rfl
      have hfl1 := blk_frozen hbl1 5
      clear hM hS1 hb1 hg1 hat1 HU2 HR2 HV hbl1 hown hsz2
      rw [hll] at HU3 HR3 ⊢
      show K (Act.put _ (some 49) _) _
      refine hK.out _ _ hcl1 (fun hS => ?_)
      clear hK K
      refine norm_ (a' := ?_) ?_ ?_
      rotate_left
      · simp only [Act.put, List.setIfInBounds_toArray, List.set_cons_zero, List.set_cons_succ]
        rfl
      refine pure_ (i := 9) (N := some 50) (v := ?_) (a' := ?_) #[true, true, true, true, true, true, true, true, true, true, false, false] rfl rfl (by kernel_rfl) (fun c a w h => leaves_same (res14 a 50 _ (by decide) (by decide)) _ _ _ h) (Or.inl ⟨by rfl, ?_⟩) ?_ ?_
      rotate_left
      · intro w'
        go_simp
        try (with_reducible rfl)
      rotate_left
      · simp only [Act.put, List.setIfInBounds_toArray, List.set_cons_zero, List.set_cons_succ]
        rfl
      refine pure_ (i := 10) (N := some 51) (v := ?_) (a' := ?_) #[true, true, true, true, true, true, true, true, true, true, true, false] rfl rfl (by kernel_rfl) (fun c a w h => leaves_same (res14 a 51 _ (by decide) (by decide)) _ _ _ h) (Or.inl ⟨by rfl, ?_⟩) ?_ ?_
      rotate_left
      · intro w'
        go_simp
        try (with_reducible rfl)
      rotate_left
      · simp only [Act.put, List.setIfInBounds_toArray, List.set_cons_zero, List.set_cons_succ]
        rfl
      refine last_ (i := 11) (N := none) #[true, true, true, true, true, true, true, true, true, true, true, true] rfl rfl (by kernel_rfl) (by simp) (fun K hK => ?_)
      refine skip_ (w1 := w1.setCell ⟨gs, 5, none⟩ (.slice A1 (i + 1) c1)) (by rfl) rfl ?_ ?_
      · simp [go_sem, hcl1, hfl1]
      refine hK.out _ _ ?_
      clear hK K hS
      refine done_ (by kernel_rfl) ?_
      clear hcl1 hfl1
      generalize w1.setCell ⟨gs, 5, none⟩ (.slice A1 (i + 1) c1) = Wd at *
      go_wp2_with (fail)
      go_roundg g
      case measure => omega
      case rel => exact ⟨i + 1, _, acc ++ [z], l2, by omega, by omega, by first | rfl | rw [wrap_succ i (by omega)], ⟨hll⟩, ⟨HU3.out.mono (fun _ _ => trivial) (fun _ _ => trivial)⟩, HR3, ⟨(lists_next hlt HZ.out).symm.trans HF.out⟩⟩
    · have c1b : decide ((i : Int) < (n : Int)) = false := decide_eq_false (by omega)
      have e0 : n - i = 0 := by omega
      have hF0 := HF.out
      rw [e0] at hF0
      clear HF HL
      go_wp2_with (fail)
      go_at_call 33
      (refine (rdmany 4096 (by decide) gr l' w _ HR.out).mono ?_)
      rintro e Wm ⟨hk, ⟨m, l3, h1, hm, rfl, hr⟩ | ⟨ee, h1, h0, rfl, l3, hr⟩⟩
      rotate_left
      · go_wp2
        exact uns_thrown ee h0 (HU.out.keep HR.out hk) hr rfl rfl (fun w' hb => HT.out ee (hF0.symm.trans (by simp only [listsP, finU, h1])) w' hb)
      have HF := Aside0.mk (show finA a b c d (p : Int) acc [] (actsP (m - 0) l3) = unscriptP l0 from hF0 ▸ (by simp only [listsP, finU, h1, List.append_nil, Nat.sub_zero]))
      have HUb := Aside0.mk (HU.out.keep HR.out hk)
      have HRb := Aside0.mk hr
      clear HU HR hk hr h1 hF0 c1b e0
      go_wp2_with (fail)
      go_loopg [55] (m + 1) (fun kq v55 wc => ∃ (j : Nat) (va : Value) (ac : List S54) (l' : List Int), j ≤ m ∧ m < j + kq ∧ v55 = .int .i64 (j : Int) ∧ Aside0 (ac.length = j) ∧ Aside0 (Us w gs ge gr (fun _ => True) (fun _ => True) wc (.int .i64 a) (.int .i64 b) (.int .i64 c) (.int .i64 d) (.int .u64 (p : Int)) v va acc ac) ∧ Aside0 (Rd w gr wc l') ∧ Aside0 (finA a b c d (p : Int) acc ac (actsP (m - j) l') = unscriptP l0))
      case atStart => exact ⟨0, _, [], l3, by omega, by omega, rfl, ⟨rfl⟩, HUb, HRb, HF⟩
      case round =>
        clear HUb HRb HF
        obtain ⟨j, va, ac, l4, hj, hjk, rfl, HL, HU, HR, HF⟩ := hrel
        cases gk with
        | zero => omega
        | succ g2 =>
        by_cases hlt : j < m
        · have c1b : decide ((j : Int) < (m : Int)) = true := decide_eq_true (by omega)
          go_wp2_with (fail)
          go_at_call 31
          (with_reducible refine (rdnum gr l4 w _ HR.out).mono ?_)
          rintro e W1 ⟨hk, ⟨x, m6, h1, _, rfl, hr⟩ | ⟨ee, h1, h0, rfl, hr⟩⟩
          rotate_left
          · go_wp2
            exact uns_thrown ee h0 (HU.out.keep HR.out hk) hr rfl rfl (fun w' hb => HT.out ee (HF.out.symm.trans (acts_err hlt (by simp only [actP, h1]))) w' hb)
          go_upto_region 13 with (fail)
          have HUc := HU.out.keep HR.out hk
          have hbx := blk_new W1 (.cells #[.int .i64 x, .int .i64 0, .int .i64 0, .slice none 0 0] 54)
          have hax : Below W1.heap.size W1 _ := below_alloc (Below.refl _ _) (.cells #[.int .i64 x, .int .i64 0, .int .i64 0, .slice none 0 0] 54)
          have hU1 := HUc.bound.below hax
          have hR1 := hr.step hax
          have q1 := blk_sz HUc.bl
          have q2 := blk_sz HUc.be
          have q3 := hr.lt
          have q4 := HUc.g1
          have Hx := Aside0.mk h1
          clear HU HR hax HUc hk hr h1
          generalize W1.alloc (.cells #[.int .i64 x, .int .i64 0, .int .i64 0, .slice none 0 0] 54) = W2 at *
          obtain ⟨gx, hgx⟩ : ∃ gx, gx = W1.heap.size := ⟨_, rfl⟩
          rw [← hgx] at hbx q1 q2 q3 hU1 ⊢
          have x1 : gx ≠ gs := by omega
          have x2 : gx ≠ ge := by omega
          have x3 : gx ≠ gr := by omega
          have X4 : Aside0 (w.heap.size ≤ gx) := ⟨by omega⟩
          clear q1 q2 q3 q4 hgx
          have HU0 := Aside0.mk (hU1.mono (ok' := fun k => k < gx) (ok2 := fun k => k < gx) (fun _ hk => hk.2) (fun _ hk => hk.2))
          have HR0 := Aside0.mk hR1
          have HX0 := Aside0.mk hbx
          clear hU1 hR1 hbx
          go_wp2_with (fail)
          go_at_call 31
          (with_reducible refine (rdnum gr m6 w _ HR0.out).mono ?_)
          rintro e W3 ⟨hk, ⟨y, m7, h1, _, rfl, hr⟩ | ⟨ee, h1, h0, rfl, hr⟩⟩
          rotate_left
          · go_wp2
            exact uns_thrown ee h0 (HU0.out.keep HR0.out hk) hr rfl rfl (fun w' hb => HT.out ee (HF.out.symm.trans (acts_err hlt (by simp only [actP, Hx.out, h1]))) w' hb)
          have HU1 := Aside0.mk (HU0.out.keep HR0.out hk)
          have HX1 := Aside0.mk (hk.blk HX0.out x3 (by simp))
          have HR1 := Aside0.mk hr
          have Hy := Aside0.mk h1
          clear hr h1 hk HU0 HX0 HR0
          go_wp2_with (fail)
          go_at_call 31
          (with_reducible refine (rdnum gr m7 w _ HR1.out).mono ?_)
          rintro e W4 ⟨hk, ⟨t, m8, h1, _, rfl, hr⟩ | ⟨ee, h1, h0, rfl, hr⟩⟩
          rotate_left
          · go_wp2
            exact uns_thrown ee h0 (HU1.out.keep HR1.out hk) hr rfl rfl (fun w' hb => HT.out ee (HF.out.symm.trans (acts_err hlt (by simp only [actP, Hx.out, Hy.out, h1]))) w' hb)
          have HU2 := Aside0.mk (HU1.out.keep HR1.out hk)
          have HX2 := Aside0.mk (hk.blk HX1.out x3 (by simp))
          have HR2 := Aside0.mk hr
          have Ht := Aside0.mk h1
          clear hr h1 hk HU1 HX1 HR1
          have hc1 : W4.cell? ⟨gx, 1, none⟩ = some (.int .i64 0) := (blk_cell HX2.out 1).trans rfl
          have hf1 := blk_frozen HX2.out 1
          have hc2 : W4.cell? ⟨gx, 2, none⟩ = some (.int .i64 0) := (blk_cell HX2.out 2).trans rfl
          have hf2 := blk_frozen HX2.out 2
          go_upto_region 14 with (fail)
          have hx : ((W4.setCell ⟨gx, 1, none⟩ (.int .i64 y)).setCell ⟨gx, 2, none⟩ (.int .i64 t)).heap[gx]? = some (.cells #[.int .i64 x, .int .i64 y, .int .i64 t, .slice none 0 0] 54 (0, 0)) := (blk_set (blk_set HX2.out 1 (.int .i64 y)) 2 (.int .i64 t))
          have hU := ((HU2.out.far x1 x2 (fun k hk => by first | exact Nat.ne_of_lt hk | exact Nat.ne_of_lt hk.1) (fun k hk => by first | exact Nat.ne_of_lt hk | exact Nat.ne_of_lt hk.1) 1 (.int .i64 y)).far x1 x2 (fun k hk => by first | exact Nat.ne_of_lt hk | exact Nat.ne_of_lt hk.1) (fun k hk => by first | exact Nat.ne_of_lt hk | exact Nat.ne_of_lt hk.1) 2 (.int .i64 t))
          have hR := ((HR2.out.other x3 X4.out 1 (.int .i64 y)).other x3 X4.out 2 (.int .i64 t))
          generalize ((W4.setCell ⟨gx, 1, none⟩ (.int .i64 y)).setCell ⟨gx, 2, none⟩ (.int .i64 t)) = W5 at *
          have HU3 := Aside0.mk hU
          have HR3 := Aside0.mk hR
          have HX3 := Aside0.mk hx
          clear hU hR hx HU2 HR2 HX2 hc1 hf1 hc2 hf2
          go_wp2_with (fail)
          go_at_call 34
          have HVb := Aside0.mk HU3.out.bound
          have hltb := blk_sz HX3.out
          obtain ⟨b9, hb9⟩ : ∃ b9, b9 = W5.heap.size := ⟨_, rfl⟩
          (with_reducible refine (rdlist gr m8 w _ HR3.out).mono ?_)
          rintro e W6 ⟨hk, ⟨z, m9, h1, ⟨vz, rfl, hvz⟩, hr⟩ | ⟨ee, h1, h0, rfl, hr⟩⟩
          rotate_left
          · go_wp2
            exact uns_thrown ee h0 (HU3.out.keep HR3.out hk) hr rfl rfl (fun w' hb => HT.out ee (HF.out.symm.trans (acts_err hlt (by simp only [actP, Hx.out, Hy.out, Ht.out, h1]))) w' hb)
          have HU4 := Aside0.mk (HVb.out.keep HR3.out hk)
          have HX4 := Aside0.mk (hk.blk HX3.out x3 (by simp))
          have HR4 := Aside0.mk hr
          have Hz := Aside0.mk h1
          obtain ⟨Az, cz, rfl⟩ := Kd.R_slice hvz
          rw [← hb9] at hvz hltb HU4
          have HVZ := Aside0.mk hvz
          clear hr h1 hk HU3 HX3 HR3 hvz HVb
          have hc3 : W6.cell? ⟨gx, 3, none⟩ = some (.slice none 0 0) := (blk_cell HX4.out 3).trans rfl
          have hf3 := blk_frozen HX4.out 3
          go_upto_region 15 with (fail)
          have hx : (W6.setCell ⟨gx, 3, none⟩ (.slice Az z.length cz)).heap[gx]? = some (.cells #[.int .i64 x, .int .i64 y, .int .i64 t, .slice Az z.length cz] 54 (0, 0)) := (blk_set HX4.out 3 (.slice Az z.length cz))
          have hU := (HU4.out.far x1 x2 (fun k hk => by first | exact Nat.ne_of_lt hk | exact Nat.ne_of_lt hk.1) (fun k hk => by first | exact Nat.ne_of_lt hk | exact Nat.ne_of_lt hk.1) 3 (.slice Az z.length cz))
          have hR := (HR4.out.other x3 X4.out 3 (.slice Az z.length cz))
          have hvz := Kd.R_far (Kd.R_bound HVZ.out) (p := ⟨gx, 3, none⟩) (fun k hk => by have := hk.2.1; show k ≠ gx; omega) (.slice Az z.length cz)
          clear HVZ
          generalize (W6.setCell ⟨gx, 3, none⟩ (.slice Az z.length cz)) = W7 at *
          have HVZ := Aside0.mk hvz
          clear hvz
          have HU5 := Aside0.mk hU
          have HR5 := Aside0.mk hR
          have HX5 := Aside0.mk hx
          clear hU hR hx HU4 HR4 HX4 hc3 hf3
          have hc0 : W7.cell? ⟨gx, 0, none⟩ = some (.int .i64 x) := (blk_cell HX5.out 0).trans rfl
          have hc1 : W7.cell? ⟨gx, 1, none⟩ = some (.int .i64 y) := (blk_cell HX5.out 1).trans rfl
          have hc2 : W7.cell? ⟨gx, 2, none⟩ = some (.int .i64 t) := (blk_cell HX5.out 2).trans rfl
          have hc3 : W7.cell? ⟨gx, 3, none⟩ = some (.slice Az z.length cz) := (blk_cell HX5.out 3).trans rfl
          have hcl : W7.cell? ⟨gs, 6, none⟩ = some va := (blk_cell HU5.out.bl 6).trans rfl
          have hlen := HL.out
          have hll : (ac ++ [(⟨x, ⟨y, t, z⟩⟩ : S54)]).length = j + 1 := by rw [List.length_append, hlen]; rfl
          have hsz := HU5.out.g1
          have hsz2 := blk_sz HU5.out.bl
          have hown : ∀ k, va.ownBlock = some k → k < gx := fun k hk => ((Kd.S_R HU5.out.SA).1 k hk).1
          have hx4 := X4.out
          have hgxs := blk_sz HX5.out
          have hbw := HR5.out.below
          have hM : k54.M W7 w.heap.size (fun k => b9 ≤ k) (⟨x, ⟨y, t, z⟩⟩ : S54) [.int .i64 x, .int .i64 y, .int .i64 t, .slice Az z.length cz] := k54_mkM W7 w.heap.size _ (⟨x, ⟨y, t, z⟩⟩ : S54) (Kd.R_lower (Kd.R_mono (Kd.R_bound HVZ.out) (fun k hk => hk.2.1)) (by omega))
          have HM := Aside0.mk hM
          clear hM HVZ
          have HUa := Aside0.mk (HU5.out.mono (ok' := fun _ => True) (ok2 := fun k => k < gx ∧ k < b9) (fun _ _ => trivial) (fun k hk => ⟨hk.1, by have h2 := hk.1; omega⟩))
          go_wp2_with (first | ((with_reducible refine gate_builtin (b := .append) (xs := #[.tmp 73, .tmp 75]) rfl ?_); at_builtin; refine Kd.S_append k54 (w0 := w) w.heap.size rfl (.tmp 73) (.tmp 75) 26 54 (.agg #[.int .i64 0, .int .i64 0, .int .i64 0, .slice none 0 0]) 48 rfl Try.underlying26 (by kernel_rfl) rfl (by decide) (by decide) va ac (⟨x, ⟨y, t, z⟩⟩ : S54) _ (fun _ => True) (fun k => b9 ≤ k) rfl rfl HM.out (fun k hk => ⟨trivial, fun he => by have h1 := hown k he.symm; have h2 := hk; omega⟩) (fun _ _ => trivial) (Kd.S_mono HUa.out.SA (fun k hk => ⟨trivial, by have := hk.2; omega⟩)) hbw (by omega) (by omega) ?_; intro v1 w1 hS1 hb1 hg1 hat1; obtain ⟨A1, c1, rfl⟩ := Kd.R_slice (Kd.S_R hS1); have hU9 := HUa.out.pushA hg1 hS1; have hR9 := HUa.out.rdA (v1 := .slice A1 (ac ++ [(⟨x, ⟨y, t, z⟩⟩ : S54)]).length c1) HR5.out hg1; rw [hll] at hU9 hR9; have hcl1 : w1.cell? ⟨gs, 6, none⟩ = some va := (blk_cell ((hg1.block _ (blk_sz HUa.out.bl) (Kd.R_ne (Kd.S_R HUa.out.SA) HUa.out.bl (by decide))).trans HUa.out.bl) 6).trans rfl; have hfl1 := blk_frozen ((hg1.block _ (blk_sz HUa.out.bl) (Kd.R_ne (Kd.S_R HUa.out.SA) HUa.out.bl (by decide))).trans HUa.out.bl) 6))
          go_roundg g2
          case measure => omega
          case rel => exact ⟨j + 1, _, ac ++ [(⟨x, ⟨y, t, z⟩⟩ : S54)], m9, by omega, by omega, by first | rfl | rw [wrap_succ j (by omega)], ⟨hll⟩, ⟨hU9⟩, ⟨hR9⟩, ⟨(acts_next hlt (by simp only [actP, Hx.out, Hy.out, Ht.out, Hz.out])).symm.trans HF.out⟩⟩
        · have c1b : decide ((j : Int) < (m : Int)) = false := decide_eq_false (by omega)
          have e0 : m - j = 0 := by omega
          have hF0 := HF.out
          rw [e0] at hF0
          clear HF HL
          go_wp2_with (fail)
          go_at_call 35
          (with_reducible refine (rdend gr l4 w _ HR.out).mono ?_)
          rintro e w2 ⟨rfl, ⟨hl, rfl⟩ | ⟨hl, rfl⟩⟩
          · obtain ⟨Av, cv, rfl⟩ := Kd.R_slice (Kd.S_R HU.out.SU)
            obtain ⟨Aw, cw, rfl⟩ := Kd.R_slice (Kd.S_R HU.out.SA)
            have hc0 : w2.cell? ⟨gs, 0, none⟩ = some (.int .i64 a) := (blk_cell HU.out.bl 0).trans rfl
            have hf0 := blk_frozen HU.out.bl 0
            have hc1 : w2.cell? ⟨gs, 1, none⟩ = some (.int .i64 b) := (blk_cell HU.out.bl 1).trans rfl
            have hf1 := blk_frozen HU.out.bl 1
            have hc2 : w2.cell? ⟨gs, 2, none⟩ = some (.int .i64 c) := (blk_cell HU.out.bl 2).trans rfl
            have hf2 := blk_frozen HU.out.bl 2
            have hc3 : w2.cell? ⟨gs, 3, none⟩ = some (.int .i64 d) := (blk_cell HU.out.bl 3).trans rfl
            have hf3 := blk_frozen HU.out.bl 3
            have hc4 : w2.cell? ⟨gs, 4, none⟩ = some (.int .u64 (p : Int)) := (blk_cell HU.out.bl 4).trans rfl
            have hf4 := blk_frozen HU.out.bl 4
            have hc5 : w2.cell? ⟨gs, 5, none⟩ = some (.slice Av acc.length cv) := (blk_cell HU.out.bl 5).trans rfl
            have hf5 := blk_frozen HU.out.bl 5
            have hc6 : w2.cell? ⟨gs, 6, none⟩ = some (.slice Aw ac.length cw) := (blk_cell HU.out.bl 6).trans rfl
            have hf6 := blk_frozen HU.out.bl 6
            have hn1 := HU.out.n1
            have hce : w2.cell? ⟨ge, 0, none⟩ = some (.int .i64 0) := (blk_cell HU.out.be 0).trans rfl
            have hfe := blk_frozen HU.out.be 0
            obtain ⟨hr1, hr2⟩ := outp_ok H.out (hF0.symm.trans (show finA a b c d (p : Int) acc ac (actsP 0 l4) = .ok ⟨a, b, c, d, (p : Int), acc, ac⟩ by rw [hl]; simp [actsP, finA]))
            go_wp2
            refine uns_left HU.out HR.out rfl rfl (fun w' hSU hSA hb => ?_)
            subst hr1 hr2
            obtain ⟨_, hl5, hC5⟩ := Kd.S_reads' hSU
            obtain ⟨_, hl6, hC6⟩ := Kd.S_reads' hSA
            exact ⟨Av, Aw, cv, cw, rfl, hC5, hl5, hC6, hl6, hb⟩
          · go_wp2
            exact uns_thrown 20 (by decide) HU.out HR.out rfl rfl (fun w' hb => HT.out 20 (hF0.symm.trans (by cases l4 with | nil => exact absurd rfl hl | cons c r => rfl)) w' hb)
end Go.Proofs.Ytoobhpgkecplmaa.QPackReads
