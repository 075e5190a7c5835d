import Derived.Test.YtkfaimhjdfpjhaaProg
import Derived.Below
import Derived.Deep.Draws
import Derived.Deep.AppendLies
import Derived.Maps.AppendAt
import Derived.OwnWalk
import Derived.Laws.BytesArg
import Derived.Laws.MakeOwn
import Derived.Laws.OwnMore
import Derived.Deep.OwnRows
import Derived.Tactics
import Derived.Lib.ConvBytes
import Derived.Laws.Slices
import Derived.WalkKit
import Derived.KernelRfl
import Derived.RowKit3
import Derived.Deep.LoopGhost
import Derived.Deep.QuietTactic
import Derived.BigQuiet
import Derived.WideLaws
import Derived.Deep.DeepCutAuto
import Derived.Deep.CutBlock
import Derived.Deep.RegionHeld3
import Derived.Laws.Rows
import Derived.Lib.AppendStr
import Derived.ArgAppend
import Derived.Laws.IdiomCopy
import Derived.OrdersHeld
import Derived.Laws.BitsLemmas
import Derived.RowKit
import Derived.Test.YtkfaimhjdfpjhaaMine
import Derived.Test.YtkfaimhjdfpjhaaMine2
import Derived.Test.YtkfaimhjdfpjhaaCh1
import Derived.Test.YtkfaimhjdfpjhaaCh2
import Derived.Test.YtkfaimhjdfpjhaaCh3
import Derived.Test.YtkfaimhjdfpjhaaCh4
import Derived.Test.YtkfaimhjdfpjhaaCh5
import Derived.Test.YtkfaimhjdfpjhaaCh6
import Derived.Test.YtkfaimhjdfpjhaaCh7
import Derived.Test.YtkfaimhjdfpjhaaWWords
import Derived.Test.YtkfaimhjdfpjhaaWLast
import Derived.Test.YtkfaimhjdfpjhaaWTab
import Derived.Test.YtkfaimhjdfpjhaaWFour
import Derived.Test.YtkfaimhjdfpjhaaWQPut
import Derived.Test.YtkfaimhjdfpjhaaWApart
import Derived.Test.YtkfaimhjdfpjhaaWArr
import Derived.Test.YtkfaimhjdfpjhaaWZeros
import Derived.Test.YtkfaimhjdfpjhaaWFoot
import Derived.Test.YtkfaimhjdfpjhaaWKept
import Derived.Test.YtkfaimhjdfpjhaaWShare
import Derived.Test.YtkfaimhjdfpjhaaWN
import Derived.Test.YtkfaimhjdfpjhaaWFootNe
import Derived.Test.YtkfaimhjdfpjhaaWAt
import Derived.Test.YtkfaimhjdfpjhaaWEqStruct
import Derived.Test.YtkfaimhjdfpjhaaWRepsOne
import Derived.Test.YtkfaimhjdfpjhaaWInv
import Derived.Test.YtkfaimhjdfpjhaaWInvWords
import Derived.Test.YtkfaimhjdfpjhaaWGuard
import Derived.Test.YtkfaimhjdfpjhaaWNEv
import Derived.Test.YtkfaimhjdfpjhaaWMore
import Derived.Test.YtkfaimhjdfpjhaaMine2
import Derived.Test.YtkfaimhjdfpjhaaCh11
namespace Go.Proofs.YtkfaimhjdfpjhaaW.Chans
open Go Go.RowKit Go.Proofs Go.Proofs.YtkfaimhjdfpjhaaW.PrintWords Go.Proofs.YtkfaimhjdfpjhaaW.PrintLast Go.Proofs.YtkfaimhjdfpjhaaW.PrintMore
set_option linter.unusedVariables false
set_option linter.unusedSimpArgs false

/-- All that was there stays, but S. -/
structure Buts (S : Nat → Prop) (w w' : World) : Prop where
  os : w'.os = w.os
  tape : w'.tape = w.tape
  output : w'.output = w.output
  size : w.heap.size ≤ w'.heap.size
  block : ∀ k, k < w.heap.size → ¬ S k → w'.heap[k]? = w.heap[k]?
theorem Buts.refl (S : Nat → Prop) (w : World) : Buts S w w := ⟨rfl, rfl, rfl, Nat.le_refl _, fun _ _ _ => rfl⟩
theorem Buts.trans {S : Nat → Prop} {a b c : World} (h : Buts S a b) (k : Buts S b c) : Buts S a c :=
  ⟨k.os.trans h.os, k.tape.trans h.tape, k.output.trans h.output, Nat.le_trans h.size k.size, fun i hi hn => (k.block i (Nat.lt_of_lt_of_le hi h.size) hn).trans (h.block i hi hn)⟩
theorem Buts.step {S : Nat → Prop} {g : Nat} {a b c : World} (h : Buts S a b) (hg : S g) (k : But g b c) : Buts S a c :=
  h.trans ⟨k.os, k.tape, k.output, k.size, fun i hi hn => k.block i hi (fun e => hn (e ▸ hg))⟩
theorem Buts.step' {S : Nat → Prop} {g : Nat} {a b c : World} (k : But g b c) (hg : S g) (h : Buts S a b) : Buts S a c := h.step hg k
theorem Buts.below {S : Nat → Prop} {a b c : World} (h : Buts S a b) (k : Below b.heap.size b c) : Buts S a c :=
  h.trans ⟨k.os, k.tape, k.output, k.size, fun i hi _ => k.block i hi⟩
theorem Buts.heap {S : Nat → Prop} {a b c : World} (h : Buts S a b) (e : (c.os, c.tape, c.output, c.heap) = (b.os, b.tape, b.output, b.heap)) : Buts S a c := by
  simp only [Prod.mk.injEq] at e
  obtain ⟨e1, e2, e3, e4⟩ := e
  exact ⟨e1.trans h.os, e2.trans h.tape, e3.trans h.output, by rw [e4]; exact h.size, fun i hi hn => by rw [e4]; exact h.block i hi hn⟩
theorem Buts.own {S : Nat → Prop} {B : Nat} {w a b : World} (h : Below B w a) (hg : ∀ k, S k → B ≤ k) (hB : B ≤ a.heap.size) (k : Buts S a b) : Below B w b :=
  ⟨k.os.trans h.os, k.tape.trans h.tape, k.output.trans h.output, Nat.le_trans h.size k.size, fun i hi => (k.block i (Nat.lt_of_lt_of_le hi hB) (fun hs => by have := hg i hs; omega)).trans (h.block i hi)⟩
theorem Inv.neg {O : Nat → Bool} {A : Nat → Int} (h : Inv O A) (n : Nat) : Inv O (upd A n (-1)) := by
  obtain ⟨h1, h2, h3⟩ := h
  refine ⟨h1, fun k hk => ?_, fun i j hi hj oi oj ai e => ?_⟩
  · unfold upd
    by_cases c : k = n
    · rw [if_pos c]; omega
    · rw [if_neg c]; exact h2 k hk
  · unfold upd at ai e
    by_cases c : i = n
    · rw [if_pos c] at ai; omega
    · rw [if_neg c] at ai e
      by_cases c' : j = n
      · rw [if_pos c'] at e; omega
      · rw [if_neg c'] at e; exact h3 i j hi hj oi oj ai e
theorem Inv.open_ {O : Nat → Bool} {A : Nat → Int} (h : Inv O A) (C : Option Nat) : Inv (opO O C) (opA A C) := by
  cases C with
  | none => exact h
  | some n =>
    obtain ⟨h1, h2, h3⟩ := h.neg n
    refine ⟨?_, h2, fun i j hi hj oi oj ai e => ?_⟩
    · show upd O n true 0 = true
      unfold upd
      by_cases c : 0 = n
      · rw [if_pos c]
      · rw [if_neg c]; exact h1
    · replace oi : upd O n true i = true := oi
      replace oj : upd O n true j = true := oj
      replace ai : 0 ≤ upd A n (-1) i := ai
      replace e : upd A n (-1) i = upd A n (-1) j := e
      unfold upd at oi oj
      have ci : ¬ i = n := fun c => by unfold upd at ai; rw [if_pos c] at ai; omega
      have cj : ¬ j = n := fun c => by rw [e] at ai; unfold upd at ai; rw [if_pos c] at ai; omega
      rw [if_neg ci] at oi
      rw [if_neg cj] at oj
      exact h3 i j hi hj oi oj ai e
theorem Inv.close {O : Nat → Bool} {A : Nat → Int} (h : Inv O A) (n : Int) : Inv (clO O n) (clA O A n) := by
  unfold clO clA
  by_cases c : askS O n 1 = 0
  · rw [if_pos c, if_pos c]
    obtain ⟨q1, q2, q3⟩ := askS_zero c
    obtain ⟨h1, h2, h3⟩ := h.neg n.toNat
    refine ⟨?_, h2, fun i j hi hj oi oj ai e => ?_⟩
    · unfold upd
      rw [if_neg (by omega)]; exact h1
    · unfold upd at oi oj
      by_cases ci : i = n.toNat
      · rw [if_pos ci] at oi; cases oi
      · by_cases cj : j = n.toNat
        · rw [if_pos cj] at oj; cases oj
        · rw [if_neg ci] at oi
          rw [if_neg cj] at oj
          exact h3 i j hi hj oi oj ai e
  · rw [if_neg c, if_neg c]; exact h
theorem scan_none {O : Nat → Bool} {A : Nat → Int} {a : Int} : ∀ (d i : Nat), (scan O A a d i).2 = false → ∀ k, i ≤ k → k < i + d → ¬ (O k = true ∧ A k = a)
  | 0, i, _, k, h1, h2 => by omega
  | d + 1, i, h, k, h1, h2 => by
    unfold scan at h
    by_cases c : O i = true ∧ A i = a
    · rw [if_pos c] at h; cases h
    · rw [if_neg c] at h
      by_cases e : k = i
      · subst e; exact c
      · exact scan_none d (i + 1) h k (by omega) (by omega)
theorem on_at {O : Nat → Bool} {A : Nat → Int} {a : Int} (hv : Inv O A) (ha : 0 ≤ a) {j : Nat} (hj : j < 4) (oj : O j = true) (aj : A j = a) : onS O A a = ((j : Int), true) := by
  have h : (onS O A a).2 = true := by
    cases hb : (onS O A a).2 with
    | true => rfl
    | false =>
      rw [onS_eq hv, if_neg (by omega)] at hb
      exact absurd ⟨oj, aj⟩ (scan_none 4 0 hb j (by omega) (by omega))
  obtain ⟨_, k, hk, e1, ok, ak⟩ := on_true hv h
  have : k = j := hv.2.2 k j hk hj ok oj (by omega) (by rw [ak, aj])
  subst this
  exact Prod.ext e1 h
theorem Inv.select {O : Nat → Bool} {A : Nat → Int} (h : Inv O A) (n a : Int) : Inv O (slA O A n a) := by
  unfold slA
  by_cases c : slE O n a = 0
  · rw [if_pos c]
    by_cases c2 : (onS O A a).2 = true ∧ (onS O A a).1 ≠ n
    · rw [if_pos c2]; exact h
    · rw [if_neg c2]
      unfold slE at c
      by_cases c3 : a < -1
      · rw [if_pos c3] at c; cases c
      · rw [if_neg c3] at c
        obtain ⟨q1, q2, q3⟩ := askS_zero c
        have key : ∀ j, j < 4 → O j = true → 0 ≤ a → A j = a → j = n.toNat := fun j hj oj ha aj => by
          have e := on_at h ha hj oj aj
          rw [e] at c2
          simp only [true_and, ne_eq, Classical.not_not] at c2
          omega
        refine ⟨h.1, fun k hk => ?_, fun i j hi hj oi oj ai e => ?_⟩
        · unfold upd
          by_cases ck : k = n.toNat
          · rw [if_pos ck]; omega
          · rw [if_neg ck]; exact h.2.1 k hk
        · unfold upd at ai e
          by_cases ci : i = n.toNat
          · rw [if_pos ci] at ai e
            by_cases cj : j = n.toNat
            · omega
            · rw [if_neg cj] at e
              have := key j hj oj ai e.symm
              omega
          · rw [if_neg ci] at ai e
            by_cases cj : j = n.toNat
            · rw [if_pos cj] at e
              have := key i hi oi (by omega) e
              omega
            · rw [if_neg cj] at e
              exact h.2.2 i j hi hj oi oj ai e
  · rw [if_neg c]; exact h
theorem Inv.start : Inv O0 A0 := ⟨rfl, fun _ _ => by unfold A0; omega, fun i j _ _ _ _ h => by unfold A0 at h; omega⟩
theorem Inv.drop {O : Nat → Bool} {A : Nat → Int} (h : Inv O A) (a : Int) : Inv O (dpA O A a) := by
  unfold dpA
  by_cases c : (onS O A a).2 = true
  · rw [if_pos c]; exact h.neg _
  · rw [if_neg c]; exact h
theorem row_kept {g : Nat} {a b : World} (h : But g a b) : Kept a b (fun k => k = g) := ⟨h.size, fun i hi hn => h.block i hi hn⟩
theorem row_ne {g B k : Nat} {p q : Prop} (h : g < B) (hk : p ∧ B ≤ k ∧ q) (e : k = g) : False := by have := hk.2.1; omega
theorem ints_dp (O : Nat → Bool) (A : Nat → Int) (a : Int) : garderoberef00_Ints.f 5 (dpS O A a) (dpS O A a) = some true := by
  unfold dpS
  by_cases h : (onS O A a).2 = true
  · rw [if_pos h]
    simp [garderoberef00_Ints.f, garderoberef00_Ints.l0, wrap64]
  · rw [if_neg h]
    simp [garderoberef00_Ints.f, garderoberef00_Ints.l0]
theorem Rt.reset {w : World} {g : Nat} {O : Nat → Bool} {A : Nat → Int} (h : Rt w g O A) : Rt ((((w.setCell ⟨g, 0, none⟩ (.int .i64 (-1))).setCell ⟨g, 1, none⟩ (.int .i64 (-2))).setCell ⟨g, 2, none⟩ (.int .i64 (-2))).setCell ⟨g, 3, none⟩ (.int .i64 (-2))) g O0 A0 := by
  obtain ⟨c, hc, hs, _⟩ := h
  refine ⟨_, blk_set (blk_set (blk_set (blk_set hc 0 _) 1 _) 2 _) 3 _, by simp [hs], fun n hn => ?_⟩
  match n, hn with
  | 0, _ => simp [hs, Array.getElem?_setIfInBounds]; rfl
  | 1, _ => simp [hs, Array.getElem?_setIfInBounds]; rfl
  | 2, _ => simp [hs, Array.getElem?_setIfInBounds]; rfl
  | 3, _ => simp [hs, Array.getElem?_setIfInBounds]; rfl
set_option maxHeartbeats 16000000 in
set_option maxRecDepth 100000 in
theorem act_ok (gc gr : Nat) (O : Nat → Bool) (A : Nat → Int) (d n a : Int) (w : World) (hs : St w gc true O A) (hr : Rt w gr O A) (hv : Inv O A) :
    Calls Try.prog 17 #[.pointer (some ⟨gc, 0, none⟩), .pointer (some ⟨gr, 0, none⟩), .agg #[.int .i64 d, .int .i64 n, .int .i64 a]] w fun e w' => e = .returned (.bool true) ∧ ∃ O' A', St w' gc true O' A' ∧ Rt w' gr O' A' ∧ Inv O' A' ∧ Buts (fun k => k = gc ∨ k = gr) w w' := by
  have hu49 := Try.underlying49
  have hu52 := Try.underlying52
  have hu54 := Try.underlying54
  have NE := Aside0.mk (show gc ≠ gr by
    obtain ⟨c, hc, _⟩ := hs
    obtain ⟨c', hc', _⟩ := hr
    exact blk_ne hc hc' (by decide))
  have HV := Aside0.mk hv
  have HV0 := Aside0.mk (show O 0 = true from hv.1)
  go_enter Try.func17, Try.ntmps17
  go_upto_region 1 with (fail)
  obtain ⟨W, hW⟩ : ∃ W_ : World, W_ = w.alloc (.cells #[.int .i64 d, .int .i64 n, .int .i64 a] 49) := ⟨_, rfl⟩
  obtain ⟨gb, hgb⟩ : ∃ g_ : Nat, g_ = w.heap.size := ⟨_, rfl⟩
  rw [← hW, ← hgb]
  have BK := Aside0.mk (show W.heap[gb]? = some (.cells #[.int .i64 d, .int .i64 n, .int .i64 a] 49 (0, 0)) by rw [hW, hgb]; exact blk_new _ _)
  have HB := Aside0.mk (show Buts (fun k => k = gc ∨ k = gr) w W by rw [hW]; exact (Buts.refl _ _).below (below_alloc (Below.refl _ _) _))
  have HS := Aside0.mk (show St W gc true O A by rw [hW]; exact hs.below (below_alloc (Below.refl _ _) _))
  have HR := Aside0.mk (show Rt W gr O A by rw [hW]; exact hr.block ((below_alloc (Below.refl w.heap.size w) (.cells #[.int .i64 d, .int .i64 n, .int .i64 a] 49)).block _ hr.lt))
  have NC := Aside0.mk (show gb ≠ gc by have := hs.lt; omega)
  have NR := Aside0.mk (show gb ≠ gr by have := hr.lt; omega)
  clear hW hgb hs hr hv
  have a0 : W.cell? ⟨gb, 0, none⟩ = some (.int .i64 d) := (blk_cell BK.out 0).trans rfl; have a1 : W.cell? ⟨gb, 1, none⟩ = some (.int .i64 n) := (blk_cell BK.out 1).trans rfl; have a2 : W.cell? ⟨gb, 2, none⟩ = some (.int .i64 a) := (blk_cell BK.out 2).trans rfl
  by_cases c0 : d = 0
  · subst c0
    go_wp2_with (first | (go_at_call 10; (with_reducible refine (Open_ok gc O A _ (HS.out.block rfl) HV0.out).mono ?_); rintro e w1 ⟨rfl, hs, hb⟩; have n0_ := Aside0.mk hs; have n1_ := Aside0.mk (HR.out.block (w' := w1) (hb.block _ HR.out.lt NE.out.symm)); have n2_ := Aside0.mk (show w1.heap[gb]? = some (.cells #[.int .i64 0, .int .i64 n, .int .i64 a] 49 (0, 0)) from (hb.block _ (blk_lt BK.out) NC.out).trans BK.out); have n3_ := Aside0.mk (HB.out.step (.inl rfl) hb); clear HS HR BK HB a0 a1 a2 hs hb; have HS := n0_; have HR := n1_; have BK := n2_; have HB := n3_; clear n0_ n1_ n2_ n3_; have a0 : w1.cell? ⟨gb, 0, none⟩ = some (.int .i64 0) := (blk_cell BK.out 0).trans rfl; have a1 : w1.cell? ⟨gb, 1, none⟩ = some (.int .i64 n) := (blk_cell BK.out 1).trans rfl; have a2 : w1.cell? ⟨gb, 2, none⟩ = some (.int .i64 a) := (blk_cell BK.out 2).trans rfl) | (go_at_call 20; (with_reducible refine (rOpen_ok gr O A _ (HR.out.block rfl) HV.out).mono ?_); rintro e w2 ⟨rfl, hs, hb⟩; have n0_ := Aside0.mk hs; have n1_ := Aside0.mk (HS.out.block (w' := w2) (hb.block _ HS.out.lt NE.out)); have n3_ := Aside0.mk (HB.out.step (.inr rfl) hb); clear HS HR BK HB a0 a1 a2 hs hb; have HS := n1_; have HR := n0_; have HB := n3_; clear n0_ n1_ n3_))
    go_ret
    exact ⟨by first | rfl | simp, _, _, HS.out.block rfl, HR.out.block rfl, HV.out.open_ _, HB.out.heap rfl⟩
  have d0 : (d == 0) = false := beq_eq_false_iff_ne.mpr c0
  clear c0
  by_cases c1 : d = 1
  · subst c1
    go_wp2_with (first | (go_at_call 11; (with_reducible refine (Close_ok gc O A n _ (HS.out.block rfl)).mono ?_); rintro e w1 ⟨rfl, hs, hb⟩; have n0_ := Aside0.mk hs; have n1_ := Aside0.mk (HR.out.block (w' := w1) (hb.block _ HR.out.lt NE.out.symm)); have n2_ := Aside0.mk (show w1.heap[gb]? = some (.cells #[.int .i64 1, .int .i64 n, .int .i64 a] 49 (0, 0)) from (hb.block _ (blk_lt BK.out) NC.out).trans BK.out); have n3_ := Aside0.mk (HB.out.step (.inl rfl) hb); clear HS HR BK HB a0 a1 a2 hs hb; have HS := n0_; have HR := n1_; have BK := n2_; have HB := n3_; clear n0_ n1_ n2_ n3_; have a0 : w1.cell? ⟨gb, 0, none⟩ = some (.int .i64 1) := (blk_cell BK.out 0).trans rfl; have a1 : w1.cell? ⟨gb, 1, none⟩ = some (.int .i64 n) := (blk_cell BK.out 1).trans rfl; have a2 : w1.cell? ⟨gb, 2, none⟩ = some (.int .i64 a) := (blk_cell BK.out 2).trans rfl) | (go_at_call 21; (with_reducible refine (rClose_ok gr O A n _ (HR.out.block rfl) HV.out).mono ?_); rintro e w2 ⟨rfl, hs, hb⟩; have n0_ := Aside0.mk hs; have n1_ := Aside0.mk (HS.out.block (w' := w2) (hb.block _ HS.out.lt NE.out)); have n3_ := Aside0.mk (HB.out.step (.inr rfl) hb); clear HS HR BK HB a0 a1 a2 hs hb; have HS := n1_; have HR := n0_; have HB := n3_; clear n0_ n1_ n3_))
    go_ret
    exact ⟨by first | rfl | simp, _, _, HS.out.block rfl, HR.out.block rfl, HV.out.close _, HB.out.heap rfl⟩
  have d1 : (d == 1) = false := beq_eq_false_iff_ne.mpr c1
  clear c1
  by_cases c2 : d = 2
  · subst c2
    go_wp2_with (first | (go_at_call 12; (with_reducible refine (Select_ok gc O A n a _ (HS.out.block rfl)).mono ?_); rintro e w1 ⟨rfl, hs, hb⟩; have n0_ := Aside0.mk hs; have n1_ := Aside0.mk (HR.out.block (w' := w1) (hb.block _ HR.out.lt NE.out.symm)); have n2_ := Aside0.mk (show w1.heap[gb]? = some (.cells #[.int .i64 2, .int .i64 n, .int .i64 a] 49 (0, 0)) from (hb.block _ (blk_lt BK.out) NC.out).trans BK.out); have n3_ := Aside0.mk (HB.out.step (.inl rfl) hb); clear HS HR BK HB a0 a1 a2 hs hb; have HS := n0_; have HR := n1_; have BK := n2_; have HB := n3_; clear n0_ n1_ n2_ n3_; have a0 : w1.cell? ⟨gb, 0, none⟩ = some (.int .i64 2) := (blk_cell BK.out 0).trans rfl; have a1 : w1.cell? ⟨gb, 1, none⟩ = some (.int .i64 n) := (blk_cell BK.out 1).trans rfl; have a2 : w1.cell? ⟨gb, 2, none⟩ = some (.int .i64 a) := (blk_cell BK.out 2).trans rfl) | (go_at_call 22; (with_reducible refine (rSelect_ok gr O A n a _ (HR.out.block rfl) HV.out).mono ?_); rintro e w2 ⟨rfl, hs, hb⟩; have n0_ := Aside0.mk hs; have n1_ := Aside0.mk (HS.out.block (w' := w2) (hb.block _ HS.out.lt NE.out)); have n3_ := Aside0.mk (HB.out.step (.inr rfl) hb); clear HS HR BK HB a0 a1 a2 hs hb; have HS := n1_; have HR := n0_; have HB := n3_; clear n0_ n1_ n3_))
    go_ret
    exact ⟨by first | rfl | simp, _, _, HS.out.block rfl, HR.out.block rfl, HV.out.select _ _, HB.out.heap rfl⟩
  have d2 : (d == 2) = false := beq_eq_false_iff_ne.mpr c2
  clear c2
  by_cases c3 : d = 3
  · subst c3
    go_wp2_with (first | (go_at_call 8; (with_reducible refine (Selected_ok gc O A n _ (HS.out.block rfl)).mono ?_); rintro e w1 ⟨rfl, hb⟩; have n0_ := Aside0.mk (HS.out.block (w' := w1) (hb.block _ HS.out.lt)); have n1_ := Aside0.mk (HR.out.block (w' := w1) (hb.block _ HR.out.lt)); have n2_ := Aside0.mk (show w1.heap[gb]? = some (.cells #[.int .i64 3, .int .i64 n, .int .i64 a] 49 (0, 0)) from (hb.block _ (blk_lt BK.out)).trans BK.out); have n3_ := Aside0.mk (HB.out.below hb); clear HS HR BK HB a0 a1 a2 hb; have HS := n0_; have HR := n1_; have BK := n2_; have HB := n3_; clear n0_ n1_ n2_ n3_; have a0 : w1.cell? ⟨gb, 0, none⟩ = some (.int .i64 3) := (blk_cell BK.out 0).trans rfl; have a1 : w1.cell? ⟨gb, 1, none⟩ = some (.int .i64 n) := (blk_cell BK.out 1).trans rfl; have a2 : w1.cell? ⟨gb, 2, none⟩ = some (.int .i64 a) := (blk_cell BK.out 2).trans rfl) | (go_at_call 23; (with_reducible refine (rSelected_ok gr O A n _ (HR.out.block rfl) HV.out).mono ?_); rintro e w2 ⟨rfl, hb⟩; have n0_ := Aside0.mk (HS.out.block (w' := w2) (hb.block _ HS.out.lt)); have n1_ := Aside0.mk (HR.out.block (w' := w2) (hb.block _ HR.out.lt)); have n2_ := Aside0.mk (show w2.heap[gb]? = some (.cells #[.int .i64 3, .int .i64 n, .int .i64 a] 49 (0, 0)) from (hb.block _ (blk_lt BK.out)).trans BK.out); have n3_ := Aside0.mk (HB.out.below hb); clear HS HR BK HB a0 a1 a2 hb; have HS := n0_; have HR := n1_; have BK := n2_; have HB := n3_; clear n0_ n1_ n2_ n3_; have a0 : w2.cell? ⟨gb, 0, none⟩ = some (.int .i64 3) := (blk_cell BK.out 0).trans rfl; have a1 : w2.cell? ⟨gb, 1, none⟩ = some (.int .i64 n) := (blk_cell BK.out 1).trans rfl; have a2 : w2.cell? ⟨gb, 2, none⟩ = some (.int .i64 a) := (blk_cell BK.out 2).trans rfl))
    go_ret
    exact ⟨by first | rfl | simp, _, _, HS.out.block rfl, HR.out.block rfl, HV.out, HB.out.heap rfl⟩
  have d3 : (d == 3) = false := beq_eq_false_iff_ne.mpr c3
  clear c3
  by_cases c4 : d = 4
  · subst c4
    go_wp2_with (first | (go_at_call 9; (with_reducible refine (On_ok gc O A a _ (HS.out.block rfl)).mono ?_); rintro e w1 ⟨rfl, hb⟩; have n0_ := Aside0.mk (HS.out.block (w' := w1) (hb.block _ HS.out.lt)); have n1_ := Aside0.mk (HR.out.block (w' := w1) (hb.block _ HR.out.lt)); have n2_ := Aside0.mk (show w1.heap[gb]? = some (.cells #[.int .i64 4, .int .i64 n, .int .i64 a] 49 (0, 0)) from (hb.block _ (blk_lt BK.out)).trans BK.out); have n3_ := Aside0.mk (HB.out.below hb); clear HS HR BK HB a0 a1 a2 hb; have HS := n0_; have HR := n1_; have BK := n2_; have HB := n3_; clear n0_ n1_ n2_ n3_; have a0 : w1.cell? ⟨gb, 0, none⟩ = some (.int .i64 4) := (blk_cell BK.out 0).trans rfl; have a1 : w1.cell? ⟨gb, 1, none⟩ = some (.int .i64 n) := (blk_cell BK.out 1).trans rfl; have a2 : w1.cell? ⟨gb, 2, none⟩ = some (.int .i64 a) := (blk_cell BK.out 2).trans rfl) | (go_at_call 24; (with_reducible refine (rOn_ok gr O A a _ (HR.out.block rfl) HV.out).mono ?_); rintro e w2 ⟨rfl, hb⟩; have n0_ := Aside0.mk (HS.out.block (w' := w2) (hb.block _ HS.out.lt)); have n1_ := Aside0.mk (HR.out.block (w' := w2) (hb.block _ HR.out.lt)); have n2_ := Aside0.mk (show w2.heap[gb]? = some (.cells #[.int .i64 4, .int .i64 n, .int .i64 a] 49 (0, 0)) from (hb.block _ (blk_lt BK.out)).trans BK.out); have n3_ := Aside0.mk (HB.out.below hb); clear HS HR BK HB a0 a1 a2 hb; have HS := n0_; have HR := n1_; have BK := n2_; have HB := n3_; clear n0_ n1_ n2_ n3_; have a0 : w2.cell? ⟨gb, 0, none⟩ = some (.int .i64 4) := (blk_cell BK.out 0).trans rfl; have a1 : w2.cell? ⟨gb, 1, none⟩ = some (.int .i64 n) := (blk_cell BK.out 1).trans rfl; have a2 : w2.cell? ⟨gb, 2, none⟩ = some (.int .i64 a) := (blk_cell BK.out 2).trans rfl))
    go_ret
    exact ⟨by first | rfl | simp, _, _, HS.out.block rfl, HR.out.block rfl, HV.out, HB.out.heap rfl⟩
  have d4 : (d == 4) = false := beq_eq_false_iff_ne.mpr c4
  clear c4
  by_cases c5 : d = 5
  · subst c5
    obtain ⟨D, hD⟩ : ∃ D_ : List Int, D_ = dpS O A a := ⟨_, rfl⟩
    have HI := Aside0.mk (show garderoberef00_Ints.f 5 D D = some true by rw [hD]; exact ints_dp O A a)
    have HD := Aside0.mk hD
    clear hD
    go_upto_region 23 with (fail)
    go_region_with (first | (go_at_call 13; (with_reducible refine (Drop_ok gc O A a _ ?hs5 HV.out).mono ?_); (case hs5 => exact HS.out.block rfl); rintro e w1 ⟨v1, rfl, hrow, hs, hb⟩; rw [← HD.out] at hrow; obtain ⟨Ao1, co1, eo1⟩ := Kd.R_slice hrow; subst eo1; have ROW1 := Aside0.mk hrow; have n0_ := Aside0.mk hs; have n1_ := Aside0.mk (HR.out.block (w' := w1) (hb.block _ HR.out.lt NE.out.symm)); have n2_ := Aside0.mk (show w1.heap[gb]? = some (.cells #[.int .i64 5, .int .i64 n, .int .i64 a] 49 (0, 0)) from (hb.block _ (blk_lt BK.out) NC.out).trans BK.out); have n3_ := Aside0.mk (Buts.step' (S := fun k => k = gc ∨ k = gr) hb (.inl rfl) (HB.out.heap rfl)); have GRL := Aside0.mk HR.out.lt; clear HS HR BK HB a0 a1 a2 hs hb hrow; have HS := n0_; have HR := n1_; have BK := n2_; have HB := n3_; clear n0_ n1_ n2_ n3_; have a0 : w1.cell? ⟨gb, 0, none⟩ = some (.int .i64 5) := (blk_cell BK.out 0).trans rfl; have a1 : w1.cell? ⟨gb, 1, none⟩ = some (.int .i64 n) := (blk_cell BK.out 1).trans rfl; have a2 : w1.cell? ⟨gb, 2, none⟩ = some (.int .i64 a) := (blk_cell BK.out 2).trans rfl) | (go_at_call 26; (with_reducible refine (rDrop_ok gr O A a _ ?hs6 HV.out).mono ?_); (case hs6 => exact HR.out.block rfl); rintro e w2 ⟨v2, rfl, hrow, hs, hb⟩; rw [← HD.out] at hrow; obtain ⟨Ao2, co2, eo2⟩ := Kd.R_slice hrow; subst eo2; have ROW2 := Aside0.mk hrow; have n4_ := Aside0.mk (Kd.R_kept (W2 := w2) (Kd.R_bound ROW1.out) (row_kept hb) (fun k hk he => row_ne GRL.out hk he)); have n0_ := Aside0.mk hs; have n1_ := Aside0.mk (HS.out.block (w' := w2) (hb.block _ HS.out.lt NE.out)); have n3_ := Aside0.mk (Buts.step' (S := fun k => k = gc ∨ k = gr) hb (.inr rfl) (HB.out.heap rfl)); clear HS HR HB hs hb hrow ROW1; have HS := n1_; have HR := n0_; have HB := n3_; have ROW1 := n4_; clear n0_ n1_ n3_ n4_) | (go_at_call 25; (with_reducible refine (garderoberef00_Ints.calls 5 Ao1 co1 D Ao2 co2 D true _ ?r1 ?r2 ?r3 ?r4 HI.out).mono ?_); (case r1 => exact (Kd.R_reads' ROW1.out).2.2); (case r2 => exact (Kd.R_reads' ROW1.out).2.1); (case r3 => exact (Kd.R_reads' ROW2.out).2.2); (case r4 => exact (Kd.R_reads' ROW2.out).2.1); rintro e w3 ⟨rfl, ⟨m3, rfl⟩⟩))
    all_goals (go_wp2; (try go_region); (try go_wp2); (try simp only [Exit.inBlock, Exit.then]); refine bodyPost_ret (v := .bool true) (by simp [results, Try.results17]; go_simp) rfl ⟨rfl, _, _, HS.out.block rfl, HR.out.block rfl, HV.out.drop a, HB.out.heap rfl⟩)
  have d5 : (d == 5) = false := beq_eq_false_iff_ne.mpr c5
  clear c5
  by_cases c6 : d = 6
  · subst c6
    go_upto_region 26 with (first | (go_at_call 16; (with_reducible refine (rNew_calls _).mono ?_); rintro e w1 ⟨g2, rfl, hg2, hb2, hb⟩; have n0_ := Aside0.mk (HS.out.block (w' := w1) (hb.block _ HS.out.lt)); have n1_ := Aside0.mk (HR.out.block (w' := w1) (hb.block _ HR.out.lt)); have n3_ := Aside0.mk (HB.out.below hb); have NG := Aside0.mk (show gr ≠ g2 from by have h_ := HR.out.lt; intro e_; subst e_; exact absurd h_ (Nat.not_lt.mpr hg2)); clear HS HR BK HB a0 a1 a2 hb hg2; have HS := n0_; have HR := n1_; have HB := n3_; clear n0_ n1_ n3_; have x0 : w1.cell? ⟨g2, 0, none⟩ = some (.int .i64 (-1)) := (blk_cell hb2 0).trans rfl; have x1 : w1.cell? ⟨g2, 1, none⟩ = some (.int .i64 (-2)) := (blk_cell hb2 1).trans rfl; have x2 : w1.cell? ⟨g2, 2, none⟩ = some (.int .i64 (-2)) := (blk_cell hb2 2).trans rfl; have x3 : w1.cell? ⟨g2, 3, none⟩ = some (.int .i64 (-2)) := (blk_cell hb2 3).trans rfl; have y0 := HR.out.at_ (n := 0) (by decide); have y1 := HR.out.at_ (n := 1) (by decide); have y2 := HR.out.at_ (n := 2) (by decide); have y3 := HR.out.at_ (n := 3) (by decide); have z0 := HR.out.frozen 0; have z1 := HR.out.frozen 1; have z2 := HR.out.frozen 2; have z3 := HR.out.frozen 3))
    obtain ⟨W5, hW5⟩ : ∃ W_ : World, W_ = (((w1.setCell ⟨gr, 0, none⟩ (.int .i64 (-1))).setCell ⟨gr, 1, none⟩ (.int .i64 (-2))).setCell ⟨gr, 2, none⟩ (.int .i64 (-2))).setCell ⟨gr, 3, none⟩ (.int .i64 (-2)) := ⟨_, rfl⟩
    rw [← hW5]
    have n0_ := Aside0.mk (show Rt W5 gr O0 A0 by rw [hW5]; exact HR.out.reset)
    have n9_ : But gr w1 W5 := by rw [hW5]; exact ((((But.refl gr w1).set _ _).set _ _).set _ _).set _ _
    have n1_ := Aside0.mk (show St W5 gc true O A from HS.out.block (n9_.block _ HS.out.lt NE.out))
    have n2_ := Aside0.mk (HB.out.step (.inr rfl) n9_)
    clear HS HR HB hW5 n9_ x0 x1 x2 x3 y0 y1 y2 y3 z0 z1 z2 z3 hb2
    have HS := n1_
    have HR := n0_
    have HB := n2_
    clear n0_ n1_ n2_
    go_wp2_with (first | (go_at_call 14; (with_reducible refine (Reset_ok gc O A _ (HS.out.block rfl) HV0.out).mono ?_); rintro e w2 ⟨rfl, hs, hb⟩; have n0_ := Aside0.mk hs; have n1_ := Aside0.mk (HR.out.block (w' := w2) (hb.block _ HR.out.lt NE.out.symm)); have n3_ := Aside0.mk (HB.out.step (.inl rfl) hb); clear HS HR HB hs hb; have HS := n0_; have HR := n1_; have HB := n3_; clear n0_ n1_ n3_))
    go_ret
    exact ⟨by first | rfl | simp, _, _, HS.out.block rfl, HR.out.block rfl, Inv.start, HB.out.heap rfl⟩
  have d6 : (d == 6) = false := beq_eq_false_iff_ne.mpr c6
  clear c6
  go_wp2
  go_ret
  exact ⟨rfl, _, _, HS.out.block rfl, HR.out.block rfl, HV.out, HB.out.heap rfl⟩
end Go.Proofs.YtkfaimhjdfpjhaaW.Chans
