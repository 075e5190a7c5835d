import Derived.Test.YtkfaimhjdfpjhaaProg
import Derived.Below
import Derived.Deep.Draws
import Derived.Deep.AppendLies
import Derived.Maps.AppendAt
import Derived.OwnWalk
import Derived.Laws.BytesArg
import Derived.Laws.MakeOwn
import Derived.Laws.OwnMore
import Derived.Deep.OwnRows
import Derived.Tactics
import Derived.Lib.ConvBytes
import Derived.Laws.Slices
import Derived.WalkKit
import Derived.KernelRfl
import Derived.RowKit3
import Derived.Deep.LoopGhost
import Derived.Deep.QuietTactic
import Derived.BigQuiet
import Derived.WideLaws
import Derived.Deep.DeepCutAuto
import Derived.Deep.CutBlock
import Derived.Deep.RegionHeld3
import Derived.Laws.Rows
import Derived.Lib.AppendStr
import Derived.ArgAppend
import Derived.Laws.IdiomCopy
import Derived.OrdersHeld
import Derived.Laws.BitsLemmas
import Derived.RowKit
import Derived.Test.YtkfaimhjdfpjhaaWWords
import Derived.Test.YtkfaimhjdfpjhaaWLast
import Derived.Test.YtkfaimhjdfpjhaaWTab
import Derived.Test.YtkfaimhjdfpjhaaWFour
import Derived.Test.YtkfaimhjdfpjhaaWQPut
import Derived.Test.YtkfaimhjdfpjhaaWApart
import Derived.Test.YtkfaimhjdfpjhaaWArr
import Derived.Test.YtkfaimhjdfpjhaaWZeros
import Derived.Test.YtkfaimhjdfpjhaaWFoot
import Derived.Test.YtkfaimhjdfpjhaaWKept
import Derived.Test.YtkfaimhjdfpjhaaWShare
import Derived.Test.YtkfaimhjdfpjhaaWN
import Derived.Test.YtkfaimhjdfpjhaaWFootNe
import Derived.Test.YtkfaimhjdfpjhaaWAt
import Derived.Test.YtkfaimhjdfpjhaaWEqStruct
import Derived.Test.YtkfaimhjdfpjhaaWRepsOne
import Derived.Test.YtkfaimhjdfpjhaaWInv
import Derived.Test.YtkfaimhjdfpjhaaWInvWords
import Derived.Test.YtkfaimhjdfpjhaaWGuard
import Derived.Test.YtkfaimhjdfpjhaaWNEv
import Derived.Test.YtkfaimhjdfpjhaaWMore
import Derived.Test.YtkfaimhjdfpjhaaCh2
namespace Go.Proofs.YtkfaimhjdfpjhaaW.Chans
open Go Go.RowKit Go.Proofs Go.Proofs.YtkfaimhjdfpjhaaW.PrintWords Go.Proofs.YtkfaimhjdfpjhaaW.PrintLast Go.Proofs.YtkfaimhjdfpjhaaW.PrintMore
set_option linter.unusedVariables false
set_option linter.unusedSimpArgs false

/-- All that was there stays, but g. -/
structure But (g : Nat) (w w' : World) : Prop where
  os : w'.os = w.os
  tape : w'.tape = w.tape
  output : w'.output = w.output
  size : w.heap.size ≤ w'.heap.size
  block : ∀ k, k < w.heap.size → k ≠ g → w'.heap[k]? = w.heap[k]?
theorem But.refl (g : Nat) (w : World) : But g w w := ⟨rfl, rfl, rfl, Nat.le_refl _, fun _ _ _ => rfl⟩
theorem But.trans {g : Nat} {a b c : World} (h : But g a b) (k : But g b c) : But g a c :=
  ⟨k.os.trans h.os, k.tape.trans h.tape, k.output.trans h.output, Nat.le_trans h.size k.size, fun i hi hn => (k.block i (Nat.lt_of_lt_of_le hi h.size) hn).trans (h.block i hi hn)⟩
theorem But.of_below {g : Nat} {a b : World} (h : Below a.heap.size a b) : But g a b := ⟨h.os, h.tape, h.output, h.size, fun i hi _ => h.block i hi⟩
theorem But.below {g : Nat} {a b c : World} (h : But g a b) (k : Below b.heap.size b c) : But g a c := h.trans (But.of_below k)
theorem But.drew {g : Nat} {a b : World} (h : But g a b) : But g a b.drew := ⟨h.os, h.tape, h.output, h.size, h.block⟩
theorem But.drewN {g : Nat} {a b : World} (h : But g a b) (n : Nat) : But g a (b.drewN n) := ⟨h.os, h.tape, h.output, h.size, h.block⟩
theorem But.set {g : Nat} {a b : World} (h : But g a b) (i : Nat) (u : Value) : But g a (b.setCell ⟨g, i, none⟩ u) :=
  h.trans ⟨rfl, rfl, rfl, by simp [World.setCell], fun k _ hn => Below.heap_setCell b ⟨g, i, none⟩ u k hn⟩
/-- .. a call's own g. -/
theorem But.own {g B : Nat} {w a b : World} (h : Below B w a) (hg : B ≤ g) (hB : B ≤ a.heap.size) (k : But g a b) : Below B w b :=
  ⟨k.os.trans h.os, k.tape.trans h.tape, k.output.trans h.output, Nat.le_trans h.size k.size, fun i hi => (k.block i (Nat.lt_of_lt_of_le hi hB) (by omega)).trans (h.block i hi)⟩
set_option maxHeartbeats 4000000 in
theorem Close_no (p : Option Addr) (n : Int) (w : World) (h : No w p) : Calls Try.prog 11 #[.pointer p, .int .i64 n] w fun e w' => e = .returned (.tuple #[.int .i64 0, .int .i64 1]) ∧ Below w.heap.size w w' := by
  have HB := Aside0.mk (Below.refl w.heap.size w)
  have HN := Aside0.mk h
  clear h
  go_enter Try.func11, Try.ntmps11
  go_wp2_with (first | (go_at_call 18; (with_reducible refine (ask_no p n 1 _ (HN.out.drew rfl)).mono ?_); rintro e w1 ⟨rfl, hb⟩; have n1_ := Aside0.mk (below_step (by repeat (first | (with_reducible first | exact HB.out | apply below_alloc | apply pw_below_drewN | apply below_drew1) | exact HB.out)) hb); clear HB hb; have HB := n1_; clear n1_))
  go_ret2
  exact ⟨rfl, by repeat (first | (with_reducible first | exact HB.out | apply below_alloc | apply pw_below_drewN | apply below_drew1) | exact HB.out)⟩
def clS (O : Nat → Bool) (A : Nat → Int) (n : Int) : Int × Int := if askS O n 1 = 0 then (A n.toNat, 0) else (0, askS O n 1)
def clO (O : Nat → Bool) (n : Int) : Nat → Bool := if askS O n 1 = 0 then upd O n.toNat false else O
def clA (O : Nat → Bool) (A : Nat → Int) (n : Int) : Nat → Int := if askS O n 1 = 0 then upd A n.toNat (-1) else A
set_option maxHeartbeats 4000000 in
theorem Close_ok (g : Nat) (O : Nat → Bool) (A : Nat → Int) (n : Int) (w : World) (h : St w g true O A) : Calls Try.prog 11 #[.pointer (some ⟨g, 0, none⟩), .int .i64 n] w fun e w' => e = .returned (.tuple #[.int .i64 (clS O A n).1, .int .i64 (clS O A n).2]) ∧ St w' g true (clO O n) (clA O A n) ∧ But g w w' := by
  have HB := Aside0.mk (Below.refl w.heap.size w)
  have HS := Aside0.mk h
  clear h
  have hu38 := Try.underlying38
  have hu36 := Try.underlying36
  have hu35 := Try.underlying35
  obtain ⟨⟨r1, r2⟩, hR⟩ : ∃ R_ : Int × Int, R_ = clS O A n := ⟨_, rfl⟩
  obtain ⟨O', hO⟩ : ∃ O_ : Nat → Bool, O_ = clO O n := ⟨_, rfl⟩
  obtain ⟨A', hA⟩ : ∃ A_ : Nat → Int, A_ = clA O A n := ⟨_, rfl⟩
  rw [← hR, ← hO, ← hA]
  unfold clS at hR
  unfold clO at hO
  unfold clA at hA
  obtain ⟨k, hk⟩ : ∃ k_ : Int, k_ = askS O n 1 := ⟨_, rfl⟩
  rw [← hk] at hR hO hA
  have HK := Aside0.mk hk
  clear hk
  by_cases c : k = 0
  · rw [if_pos c] at hR hO hA
    obtain ⟨q1, q2, q3⟩ := askS_zero (HK.out.symm.trans c)
    simp only [Prod.mk.injEq] at hR
    obtain ⟨rfl, rfl⟩ := hR
    have Q4 := Aside0.mk (show n.toNat < 4 by omega)
    have HO := Aside0.mk hO
    have HA := Aside0.mk hA
    clear hO hA
    replace q1 := eq_true (show 0 ≤ n by omega)
    replace q2 := eq_true q2
    subst c
    go_enter Try.func11, Try.ntmps11
    go_upto_region 5 with (first | (go_at_call 18; (with_reducible refine (ask_ok g O A n 1 _ (HS.out.block rfl) (by decide)).mono ?_); rintro e w1 ⟨rfl, hb⟩; rw [← HK.out]; have n0_ := Aside0.mk (HS.out.block (hb.block _ HS.out.lt)); have n1_ := Aside0.mk (below_step (by repeat (first | (with_reducible first | exact HB.out | apply below_alloc | apply pw_below_drewN | apply below_drew1) | exact HB.out)) hb); clear HB HS hb; have HS := n0_; have HB := n1_; clear n0_ n1_; have ha := HS.out.app Q4.out))
    have ho := HS.out.open_ Q4.out
    have hf1 := HS.out.frozen (1 + n.toNat * 2)
    have hf2 := HS.out.frozen (1 + n.toNat * 2 + 1)
    go_wp2
    go_ret2
    exact ⟨rfl, by rw [HO.out, HA.out]; exact (HS.out.setOpen Q4.out false).setApp Q4.out (-1), ((But.of_below HB.out).set _ _).set _ _⟩
  · rw [if_neg c] at hR hO hA
    rw [hO, hA]
    clear hO hA O' A'
    simp only [Prod.mk.injEq] at hR
    obtain ⟨rfl, rfl⟩ := hR
    have cb : (r2 != 0) = true := bne_iff_ne.mpr c
    have cc : (r2 == 0) = false := beq_eq_false_iff_ne.mpr c
    clear c
    go_enter Try.func11, Try.ntmps11
    go_wp2_with (first | (go_at_call 18; (with_reducible refine (ask_ok g O A n 1 _ (HS.out.block rfl) (by decide)).mono ?_); rintro e w1 ⟨rfl, hb⟩; rw [← HK.out]; have n0_ := Aside0.mk (HS.out.block (hb.block _ HS.out.lt)); have n1_ := Aside0.mk (below_step (by repeat (first | (with_reducible first | exact HB.out | apply below_alloc | apply pw_below_drewN | apply below_drew1) | exact HB.out)) hb); clear HB HS hb; have HS := n0_; have HB := n1_; clear n0_ n1_))
    go_ret2
    exact ⟨rfl, HS.out.block rfl, But.of_below (by repeat (first | (with_reducible first | exact HB.out | apply below_alloc | apply pw_below_drewN | apply below_drew1) | exact HB.out))⟩
set_option maxHeartbeats 4000000 in
theorem Select_no (p : Option Addr) (n a : Int) (w : World) (h : No w p) : Calls Try.prog 12 #[.pointer p, .int .i64 n, .int .i64 a] w fun e w' => e = .returned (.tuple #[.int .i64 0, .int .i64 1]) ∧ Below w.heap.size w w' := by
  have HB := Aside0.mk (Below.refl w.heap.size w)
  have HN := Aside0.mk h
  clear h
  go_enter Try.func12, Try.ntmps12
  go_wp2_with (first | (go_at_call 18; (with_reducible refine (ask_no p n 0 _ (HN.out.drew rfl)).mono ?_); rintro e w1 ⟨rfl, hb⟩; have n1_ := Aside0.mk (below_step (by repeat (first | (with_reducible first | exact HB.out | apply below_alloc | apply pw_below_drewN | apply below_drew1) | exact HB.out)) hb); clear HB hb; have HB := n1_; clear n1_))
  go_ret2
  exact ⟨rfl, by repeat (first | (with_reducible first | exact HB.out | apply below_alloc | apply pw_below_drewN | apply below_drew1) | exact HB.out)⟩
def slE (O : Nat → Bool) (n a : Int) : Int := if a < -1 then 2 else askS O n 0
def slS (O : Nat → Bool) (A : Nat → Int) (n a : Int) : Int × Int := if slE O n a = 0 then (if (onS O A a).2 = true ∧ (onS O A a).1 ≠ n then (0, 7) else (A n.toNat, 0)) else (0, slE O n a)
def slA (O : Nat → Bool) (A : Nat → Int) (n a : Int) : Nat → Int := if slE O n a = 0 then (if (onS O A a).2 = true ∧ (onS O A a).1 ≠ n then A else upd A n.toNat a) else A
theorem askS_one {O : Nat → Bool} {n f : Int} : askS O n f ≠ 1 := by
  unfold askS
  (repeat' split) <;> decide
set_option maxHeartbeats 8000000 in
theorem Select_ok (g : Nat) (O : Nat → Bool) (A : Nat → Int) (n a : Int) (w : World) (h : St w g true O A) : Calls Try.prog 12 #[.pointer (some ⟨g, 0, none⟩), .int .i64 n, .int .i64 a] w fun e w' => e = .returned (.tuple #[.int .i64 (slS O A n a).1, .int .i64 (slS O A n a).2]) ∧ St w' g true O (slA O A n a) ∧ But g w w' := by
  have HB := Aside0.mk (Below.refl w.heap.size w)
  have HS := Aside0.mk h
  clear h
  have hu38 := Try.underlying38
  have hu36 := Try.underlying36
  have hu35 := Try.underlying35
  obtain ⟨⟨r1, r2⟩, hR⟩ : ∃ R_ : Int × Int, R_ = slS O A n a := ⟨_, rfl⟩
  obtain ⟨A', hA⟩ : ∃ A_ : Nat → Int, A_ = slA O A n a := ⟨_, rfl⟩
  rw [← hR, ← hA]
  unfold slS at hR
  unfold slA at hA
  unfold slE at hR hA
  have h1 : askS O n 0 ≠ 1 := askS_one
  obtain ⟨k, hk⟩ : ∃ k_ : Int, k_ = askS O n 0 := ⟨_, rfl⟩
  rw [← hk] at hR hA h1
  have HK := Aside0.mk hk
  clear hk
  have h1b : (k != 1) = true := bne_iff_ne.mpr h1
  have h1c : (k == 1) = false := beq_eq_false_iff_ne.mpr h1
  clear h1
  by_cases c1 : a < -1
  · rw [if_pos c1, if_neg (by decide)] at hR hA
    have c1b : decide (a < -1) = true := decide_eq_true c1
    clear c1
    rw [hA]
    clear hA
    simp only [Prod.mk.injEq] at hR
    obtain ⟨rfl, rfl⟩ := hR
    go_enter Try.func12, Try.ntmps12
    go_wp2_with (first | (go_at_call 18; (with_reducible refine (ask_ok g O A n 0 _ (HS.out.block rfl) (by decide)).mono ?_); rintro e w1 ⟨rfl, hb⟩; rw [← HK.out]; have n0_ := Aside0.mk (HS.out.block (hb.block _ HS.out.lt)); have n1_ := Aside0.mk (below_step (by repeat (first | (with_reducible first | exact HB.out | apply below_alloc | apply pw_below_drewN | apply below_drew1) | exact HB.out)) hb); clear HB HS hb; have HS := n0_; have HB := n1_; clear n0_ n1_))
    go_ret2
    exact ⟨rfl, HS.out.block rfl, But.of_below (by repeat (first | (with_reducible first | exact HB.out | apply below_alloc | apply pw_below_drewN | apply below_drew1) | exact HB.out))⟩
  · rw [if_neg c1] at hR hA
    have c1b : decide (a < -1) = false := decide_eq_false c1
    clear c1
    by_cases c : k = 0
    · rw [if_pos c] at hR hA
      obtain ⟨q1, q2, q3⟩ := askS_zero (HK.out.symm.trans c)
      have Q4 := Aside0.mk (show n.toNat < 4 by omega)
      replace q1 := eq_true (show 0 ≤ n by omega)
      replace q2 := eq_true q2
      subst c
      obtain ⟨⟨x, b⟩, hx⟩ : ∃ X_ : Int × Bool, X_ = onS O A a := ⟨_, rfl⟩
      rw [← hx] at hR hA
      have HX := Aside0.mk hx
      clear hx
      simp only at hR hA
      by_cases c2 : b = true ∧ x ≠ n
      · rw [if_pos c2] at hR hA
        rw [hA]
        clear hA
        simp only [Prod.mk.injEq] at hR
        obtain ⟨rfl, rfl⟩ := hR
        obtain ⟨rfl, c3⟩ := c2
        have c3b : (x != n) = true := bne_iff_ne.mpr c3
        clear c3
        go_enter Try.func12, Try.ntmps12
        go_wp2_with (first | (go_at_call 18; (with_reducible refine (ask_ok g O A n 0 _ (HS.out.block rfl) (by decide)).mono ?_); rintro e w1 ⟨rfl, hb⟩; rw [← HK.out]; have n0_ := Aside0.mk (HS.out.block (hb.block _ HS.out.lt)); have n1_ := Aside0.mk (below_step (by repeat (first | (with_reducible first | exact HB.out | apply below_alloc | apply pw_below_drewN | apply below_drew1) | exact HB.out)) hb); clear HB HS hb; have HS := n0_; have HB := n1_; clear n0_ n1_) | (go_at_call 9; (with_reducible refine (On_ok g O A a _ (HS.out.block rfl)).mono ?_); rintro e w2 ⟨rfl, hb⟩; rw [← HX.out]; have n0_ := Aside0.mk (HS.out.block (hb.block _ HS.out.lt)); have n1_ := Aside0.mk (below_step (by repeat (first | (with_reducible first | exact HB.out | apply below_alloc | apply pw_below_drewN | apply below_drew1) | exact HB.out)) hb); clear HB HS hb; have HS := n0_; have HB := n1_; clear n0_ n1_; have ha := HS.out.app Q4.out))
        go_ret2
        exact ⟨rfl, HS.out.block rfl, But.of_below (by repeat (first | (with_reducible first | exact HB.out | apply below_alloc | apply pw_below_drewN | apply below_drew1) | exact HB.out))⟩
      · rw [if_neg c2] at hR hA
        have HA := Aside0.mk hA
        clear hA
        simp only [Prod.mk.injEq] at hR
        obtain ⟨rfl, rfl⟩ := hR
        have hf := HS.out.frozen (1 + n.toNat * 2 + 1)
        clear hf
        cases b with
        | false =>
          clear c2
          go_enter Try.func12, Try.ntmps12
          go_upto_region 10 with (first | (go_at_call 18; (with_reducible refine (ask_ok g O A n 0 _ (HS.out.block rfl) (by decide)).mono ?_); rintro e w1 ⟨rfl, hb⟩; rw [← HK.out]; have n0_ := Aside0.mk (HS.out.block (hb.block _ HS.out.lt)); have n1_ := Aside0.mk (below_step (by repeat (first | (with_reducible first | exact HB.out | apply below_alloc | apply pw_below_drewN | apply below_drew1) | exact HB.out)) hb); clear HB HS hb; have HS := n0_; have HB := n1_; clear n0_ n1_) | (go_at_call 9; (with_reducible refine (On_ok g O A a _ (HS.out.block rfl)).mono ?_); rintro e w2 ⟨rfl, hb⟩; rw [← HX.out]; have n0_ := Aside0.mk (HS.out.block (hb.block _ HS.out.lt)); have n1_ := Aside0.mk (below_step (by repeat (first | (with_reducible first | exact HB.out | apply below_alloc | apply pw_below_drewN | apply below_drew1) | exact HB.out)) hb); clear HB HS hb; have HS := n0_; have HB := n1_; clear n0_ n1_; have ha := HS.out.app Q4.out))
          have hf2 := HS.out.frozen (1 + n.toNat * 2 + 1)
          go_wp2
          go_ret2
          exact ⟨rfl, by rw [HA.out]; exact HS.out.setApp Q4.out a, (But.of_below HB.out).set _ _⟩
        | true =>
          have c3 : x = n := Classical.byContradiction fun h => c2 ⟨rfl, h⟩
          have c3b : (x != n) = false := bne_eq_false_iff_eq.mpr c3
          clear c2 c3
          go_enter Try.func12, Try.ntmps12
          go_upto_region 10 with (first | (go_at_call 18; (with_reducible refine (ask_ok g O A n 0 _ (HS.out.block rfl) (by decide)).mono ?_); rintro e w1 ⟨rfl, hb⟩; rw [← HK.out]; have n0_ := Aside0.mk (HS.out.block (hb.block _ HS.out.lt)); have n1_ := Aside0.mk (below_step (by repeat (first | (with_reducible first | exact HB.out | apply below_alloc | apply pw_below_drewN | apply below_drew1) | exact HB.out)) hb); clear HB HS hb; have HS := n0_; have HB := n1_; clear n0_ n1_) | (go_at_call 9; (with_reducible refine (On_ok g O A a _ (HS.out.block rfl)).mono ?_); rintro e w2 ⟨rfl, hb⟩; rw [← HX.out]; have n0_ := Aside0.mk (HS.out.block (hb.block _ HS.out.lt)); have n1_ := Aside0.mk (below_step (by repeat (first | (with_reducible first | exact HB.out | apply below_alloc | apply pw_below_drewN | apply below_drew1) | exact HB.out)) hb); clear HB HS hb; have HS := n0_; have HB := n1_; clear n0_ n1_; have ha := HS.out.app Q4.out))
          have hf2 := HS.out.frozen (1 + n.toNat * 2 + 1)
          go_wp2
          go_ret2
          exact ⟨rfl, by rw [HA.out]; exact HS.out.setApp Q4.out a, (But.of_below HB.out).set _ _⟩
    · rw [if_neg c] at hR hA
      rw [hA]
      clear hA
      simp only [Prod.mk.injEq] at hR
      obtain ⟨rfl, rfl⟩ := hR
      have cb : (r2 != 0) = true := bne_iff_ne.mpr c
      have cc : (r2 == 0) = false := beq_eq_false_iff_ne.mpr c
      clear c
      go_enter Try.func12, Try.ntmps12
      go_wp2_with (first | (go_at_call 18; (with_reducible refine (ask_ok g O A n 0 _ (HS.out.block rfl) (by decide)).mono ?_); rintro e w1 ⟨rfl, hb⟩; rw [← HK.out]; have n0_ := Aside0.mk (HS.out.block (hb.block _ HS.out.lt)); have n1_ := Aside0.mk (below_step (by repeat (first | (with_reducible first | exact HB.out | apply below_alloc | apply pw_below_drewN | apply below_drew1) | exact HB.out)) hb); clear HB HS hb; have HS := n0_; have HB := n1_; clear n0_ n1_))
      go_ret2
      exact ⟨rfl, HS.out.block rfl, But.of_below (by repeat (first | (with_reducible first | exact HB.out | apply below_alloc | apply pw_below_drewN | apply below_drew1) | exact HB.out))⟩
end Go.Proofs.YtkfaimhjdfpjhaaW.Chans
