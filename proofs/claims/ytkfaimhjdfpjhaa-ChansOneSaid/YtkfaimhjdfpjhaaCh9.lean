import Derived.Test.YtkfaimhjdfpjhaaProg
import Derived.Below
import Derived.Deep.Draws
import Derived.Deep.AppendLies
import Derived.Maps.AppendAt
import Derived.OwnWalk
import Derived.Laws.BytesArg
import Derived.Laws.MakeOwn
import Derived.Laws.OwnMore
import Derived.Deep.OwnRows
import Derived.Tactics
import Derived.Lib.ConvBytes
import Derived.Laws.Slices
import Derived.WalkKit
import Derived.KernelRfl
import Derived.RowKit3
import Derived.Deep.LoopGhost
import Derived.Deep.QuietTactic
import Derived.BigQuiet
import Derived.WideLaws
import Derived.Deep.DeepCutAuto
import Derived.Deep.CutBlock
import Derived.Deep.RegionHeld3
import Derived.Laws.Rows
import Derived.Lib.AppendStr
import Derived.ArgAppend
import Derived.Laws.IdiomCopy
import Derived.OrdersHeld
import Derived.Laws.BitsLemmas
import Derived.RowKit
import Derived.Test.YtkfaimhjdfpjhaaMine
import Derived.Test.YtkfaimhjdfpjhaaMine2
import Derived.Test.YtkfaimhjdfpjhaaCh1
import Derived.Test.YtkfaimhjdfpjhaaCh2
import Derived.Test.YtkfaimhjdfpjhaaCh3
import Derived.Test.YtkfaimhjdfpjhaaCh4
import Derived.Test.YtkfaimhjdfpjhaaCh5
import Derived.Test.YtkfaimhjdfpjhaaCh6
import Derived.Test.YtkfaimhjdfpjhaaCh7
import Derived.Test.YtkfaimhjdfpjhaaWWords
import Derived.Test.YtkfaimhjdfpjhaaWLast
import Derived.Test.YtkfaimhjdfpjhaaWTab
import Derived.Test.YtkfaimhjdfpjhaaWFour
import Derived.Test.YtkfaimhjdfpjhaaWQPut
import Derived.Test.YtkfaimhjdfpjhaaWApart
import Derived.Test.YtkfaimhjdfpjhaaWArr
import Derived.Test.YtkfaimhjdfpjhaaWZeros
import Derived.Test.YtkfaimhjdfpjhaaWFoot
import Derived.Test.YtkfaimhjdfpjhaaWKept
import Derived.Test.YtkfaimhjdfpjhaaWShare
import Derived.Test.YtkfaimhjdfpjhaaWN
import Derived.Test.YtkfaimhjdfpjhaaWFootNe
import Derived.Test.YtkfaimhjdfpjhaaWAt
import Derived.Test.YtkfaimhjdfpjhaaWEqStruct
import Derived.Test.YtkfaimhjdfpjhaaWRepsOne
import Derived.Test.YtkfaimhjdfpjhaaWInv
import Derived.Test.YtkfaimhjdfpjhaaWInvWords
import Derived.Test.YtkfaimhjdfpjhaaWGuard
import Derived.Test.YtkfaimhjdfpjhaaWNEv
import Derived.Test.YtkfaimhjdfpjhaaWMore
import Derived.Test.YtkfaimhjdfpjhaaMine2
import Derived.Test.YtkfaimhjdfpjhaaCh8
namespace Go.Proofs.YtkfaimhjdfpjhaaW.Chans
open Go Go.RowKit Go.Proofs Go.Proofs.YtkfaimhjdfpjhaaW.PrintWords Go.Proofs.YtkfaimhjdfpjhaaW.PrintLast Go.Proofs.YtkfaimhjdfpjhaaW.PrintMore
set_option linter.unusedVariables false
set_option linter.unusedSimpArgs false

theorem L_close (O : Nat → Bool) (A : Nat → Int) (n : Nat) (v : Int) : ∀ k, k < 4 → L (upd O n false) (upd A n v) k = if k = n then -2 else L O A k := by
  intro k _
  unfold L upd
  by_cases e : k = n <;> simp [e]
theorem L_open (O : Nat → Bool) (A : Nat → Int) (n : Nat) (v : Int) : ∀ k, k < 4 → L (upd O n true) (upd A n v) k = if k = n then v else L O A k := by
  intro k _
  unfold L upd
  by_cases e : k = n <;> simp [e]
theorem L_sel (O : Nat → Bool) (A : Nat → Int) (n : Nat) (v : Int) (h : O n = true) : ∀ k, k < 4 → L O (upd A n v) k = if k = n then v else L O A k := by
  intro k _
  unfold L upd
  by_cases e : k = n
  · subst e; simp [h]
  · simp [e]
set_option maxHeartbeats 4000000 in
theorem rClose_ok (g : Nat) (O : Nat → Bool) (A : Nat → Int) (n : Int) (w : World) (h : Rt w g O A) (hv : Inv O A) : Calls Try.prog 21 #[.pointer (some ⟨g, 0, none⟩), .int .i64 n] w fun e w' => e = .returned (.tuple #[.int .i64 (clS O A n).1, .int .i64 (clS O A n).2]) ∧ Rt w' g (clO O n) (clA O A n) ∧ But g w w' := by
  have HB := Aside0.mk (Below.refl w.heap.size w)
  have HS := Aside0.mk h
  have HV := Aside0.mk hv
  clear h hv
  have hu54 := Try.underlying54
  have hu52 := Try.underlying52
  unfold clS clO clA
  by_cases c1 : n < 1
  · have c1b : decide (n < 1) = true := decide_eq_true c1
    have e_ : askS O n 1 = 2 := by unfold askS; rw [if_pos c1]
    rw [e_, if_neg (by decide), if_neg (by decide), if_neg (by decide)]
    clear c1 e_
    go_enter Try.func21, Try.ntmps21
    go_wp2
    go_ret2
    exact ⟨rfl, HS.out.block rfl, But.of_below (by repeat (first | (with_reducible first | exact HB.out | apply below_alloc | apply pw_below_drewN | apply below_drew1) | exact HB.out))⟩
  · have c1b : decide (n < 1) = false := decide_eq_false c1
    by_cases c2 : 3 < n
    · have c2b : decide (3 < n) = true := decide_eq_true c2
      have e_ : askS O n 1 = 2 := by unfold askS; rw [if_neg c1, if_pos (by omega)]
      rw [e_, if_neg (by decide), if_neg (by decide), if_neg (by decide)]
      clear c1 c2 e_
      go_enter Try.func21, Try.ntmps21
      go_wp2
      go_ret2
      exact ⟨rfl, HS.out.block rfl, But.of_below (by repeat (first | (with_reducible first | exact HB.out | apply below_alloc | apply pw_below_drewN | apply below_drew1) | exact HB.out))⟩
    · have c2b : decide (3 < n) = false := decide_eq_false c2
      have q1 := eq_true (show 0 ≤ n by omega)
      have q2 := eq_true (show n < 4 by omega)
      have hn4 : n.toNat < 4 := by omega
      have Q4 := Aside0.mk hn4
      have hl := HS.out.at_ hn4
      have he := L_eq HV.out hn4
      have ha : askS O n 1 = if O n.toNat = true then 0 else 6 := by unfold askS; rw [if_neg c1, if_neg (by omega)]
      clear c1 c2
      obtain ⟨y, hy⟩ : ∃ y_ : Int, y_ = L O A n.toNat := ⟨_, rfl⟩
      rw [← hy] at hl he
      unfold L at hy
      by_cases hb : O n.toNat = true
      · rw [if_pos hb] at ha hy
        rw [ha, if_pos rfl, if_pos rfl, if_pos rfl, ← hy]
        have hne : y ≠ -2 := fun h => by have := he.1 h; rw [hb] at this; exact absurd this (by decide)
        have e1 : (y == -2) = false := beq_eq_false_iff_ne.mpr hne
        have e2 : decide (y = -2) = false := decide_eq_false hne
        have hf := HS.out.frozen n.toNat
        clear he hne hy hn4 ha hb
        go_enter Try.func21, Try.ntmps21
        go_wp2
        go_ret2
        exact ⟨rfl, HS.out.set Q4.out _ (L_close O A _ _), (But.of_below HB.out).set _ _⟩
      · rw [if_neg hb] at ha
        rw [ha, if_neg (by decide), if_neg (by decide), if_neg (by decide)]
        have hne : y = -2 := he.2 (by simpa using hb)
        subst hne
        clear he hy hn4 ha hb
        go_enter Try.func21, Try.ntmps21
        go_wp2
        go_ret2
        exact ⟨rfl, HS.out.block rfl, But.of_below (by repeat (first | (with_reducible first | exact HB.out | apply below_alloc | apply pw_below_drewN | apply below_drew1) | exact HB.out))⟩
set_option maxHeartbeats 8000000 in
theorem rSelect_ok (g : Nat) (O : Nat → Bool) (A : Nat → Int) (n a : Int) (w : World) (h : Rt w g O A) (hv : Inv O A) : Calls Try.prog 22 #[.pointer (some ⟨g, 0, none⟩), .int .i64 n, .int .i64 a] w fun e w' => e = .returned (.tuple #[.int .i64 (slS O A n a).1, .int .i64 (slS O A n a).2]) ∧ Rt w' g O (slA O A n a) ∧ But g w w' := by
  have HB := Aside0.mk (Below.refl w.heap.size w)
  have HS := Aside0.mk h
  have HV := Aside0.mk hv
  clear h hv
  have hu54 := Try.underlying54
  have hu52 := Try.underlying52
  unfold slS slA
  by_cases c1 : n < 0
  · have c1b : decide (n < 0) = true := decide_eq_true c1
    have e_ : slE O n a = 2 := by unfold slE askS; rw [if_pos c1]; split <;> rfl
    rw [e_, if_neg (by decide), if_neg (by decide)]
    clear c1 e_
    go_enter Try.func22, Try.ntmps22
    go_wp2
    go_ret2
    exact ⟨rfl, HS.out.block rfl, But.of_below (by repeat (first | (with_reducible first | exact HB.out | apply below_alloc | apply pw_below_drewN | apply below_drew1) | exact HB.out))⟩
  · have c1b : decide (n < 0) = false := decide_eq_false c1
    by_cases c2 : 3 < n
    · have c2b : decide (3 < n) = true := decide_eq_true c2
      have e_ : slE O n a = 2 := by unfold slE askS; rw [if_neg c1, if_pos (show 4 ≤ n by omega)]; split <;> rfl
      rw [e_, if_neg (by decide), if_neg (by decide)]
      clear c1 c2 e_
      go_enter Try.func22, Try.ntmps22
      go_wp2
      go_ret2
      exact ⟨rfl, HS.out.block rfl, But.of_below (by repeat (first | (with_reducible first | exact HB.out | apply below_alloc | apply pw_below_drewN | apply below_drew1) | exact HB.out))⟩
    · have c2b : decide (3 < n) = false := decide_eq_false c2
      by_cases c3 : a < -1
      · have c3b : decide (a < -1) = true := decide_eq_true c3
        have e_ : slE O n a = 2 := by unfold slE; rw [if_pos c3]
        rw [e_, if_neg (by decide), if_neg (by decide)]
        clear c1 c2 c3 e_
        go_enter Try.func22, Try.ntmps22
        go_wp2
        go_ret2
        exact ⟨rfl, HS.out.block rfl, But.of_below (by repeat (first | (with_reducible first | exact HB.out | apply below_alloc | apply pw_below_drewN | apply below_drew1) | exact HB.out))⟩
      · have c3b : decide (a < -1) = false := decide_eq_false c3
        have q1 := eq_true (show 0 ≤ n by omega)
        have q2 := eq_true (show n < 4 by omega)
        have hn4 : n.toNat < 4 := by omega
        have Q4 := Aside0.mk hn4
        have hl := HS.out.at_ hn4
        have he := L_eq HV.out hn4
        have ha : slE O n a = if O n.toNat = true then 0 else 6 := by unfold slE askS; rw [if_neg c3, if_neg c1, if_neg (by omega)]
        clear c1 c2 c3
        obtain ⟨y, hy⟩ : ∃ y_ : Int, y_ = L O A n.toNat := ⟨_, rfl⟩
        have HY := Aside0.mk hy
        rw [← hy] at hl he
        unfold L at hy
        by_cases hb : O n.toNat = true
        · rw [if_pos hb] at ha hy
          rw [ha, if_pos rfl, if_pos rfl, ← hy]
          have hne : y ≠ -2 := fun h => by have := he.1 h; rw [hb] at this; exact absurd this (by decide)
          have e1 : (y == -2) = false := beq_eq_false_iff_ne.mpr hne
          have e2 : decide (y = -2) = false := decide_eq_false hne
          have HO := Aside0.mk hb
          clear he hne hy hn4 ha hb
          obtain ⟨⟨x, b⟩, hx⟩ : ∃ X_ : Int × Bool, X_ = onS O A a := ⟨_, rfl⟩
          rw [← hx]
          have HX := Aside0.mk hx
          clear hx
          simp only
          by_cases c4 : b = true ∧ x ≠ n
          · rw [if_pos c4, if_pos c4]
            obtain ⟨rfl, c5⟩ := c4
            have c5b : (x != n) = true := bne_iff_ne.mpr c5
            clear c5
            go_enter Try.func22, Try.ntmps22
            go_wp2_with (first | (go_at_call 24; (with_reducible refine (rOn_ok g O A a _ (HS.out.block rfl) HV.out).mono ?_); rintro e w2 ⟨rfl, hb⟩; rw [← HX.out]; have n0_ := Aside0.mk (HS.out.block (hb.block _ HS.out.lt)); have n1_ := Aside0.mk (below_step (by repeat (first | (with_reducible first | exact HB.out | apply below_alloc | apply pw_below_drewN | apply below_drew1) | exact HB.out)) hb); clear HB HS hb hl; have HS := n0_; have HB := n1_; clear n0_ n1_; have hl := HS.out.at_ Q4.out; rw [← HY.out] at hl; have hf2 := HS.out.frozen n.toNat))
            go_ret2
            exact ⟨rfl, HS.out.block rfl, But.of_below (by repeat (first | (with_reducible first | exact HB.out | apply below_alloc | apply pw_below_drewN | apply below_drew1) | exact HB.out))⟩
          · rw [if_neg c4, if_neg c4]
            cases b with
            | false =>
              clear c4
              go_enter Try.func22, Try.ntmps22
              go_wp2_with (first | (go_at_call 24; (with_reducible refine (rOn_ok g O A a _ (HS.out.block rfl) HV.out).mono ?_); rintro e w2 ⟨rfl, hb⟩; rw [← HX.out]; have n0_ := Aside0.mk (HS.out.block (hb.block _ HS.out.lt)); have n1_ := Aside0.mk (below_step (by repeat (first | (with_reducible first | exact HB.out | apply below_alloc | apply pw_below_drewN | apply below_drew1) | exact HB.out)) hb); clear HB HS hb hl; have HS := n0_; have HB := n1_; clear n0_ n1_; have hl := HS.out.at_ Q4.out; rw [← HY.out] at hl; have hf2 := HS.out.frozen n.toNat))
              go_ret2
              exact ⟨rfl, (HS.out.set Q4.out a (L_sel O A _ _ HO.out)).block rfl, (But.of_below HB.out).set _ _⟩
            | true =>
              have c5 : x = n := Classical.byContradiction fun h => c4 ⟨rfl, h⟩
              have c5b : (x != n) = false := bne_eq_false_iff_eq.mpr c5
              clear c4 c5
              go_enter Try.func22, Try.ntmps22
              go_wp2_with (first | (go_at_call 24; (with_reducible refine (rOn_ok g O A a _ (HS.out.block rfl) HV.out).mono ?_); rintro e w2 ⟨rfl, hb⟩; rw [← HX.out]; have n0_ := Aside0.mk (HS.out.block (hb.block _ HS.out.lt)); have n1_ := Aside0.mk (below_step (by repeat (first | (with_reducible first | exact HB.out | apply below_alloc | apply pw_below_drewN | apply below_drew1) | exact HB.out)) hb); clear HB HS hb hl; have HS := n0_; have HB := n1_; clear n0_ n1_; have hl := HS.out.at_ Q4.out; rw [← HY.out] at hl; have hf2 := HS.out.frozen n.toNat))
              go_ret2
              exact ⟨rfl, (HS.out.set Q4.out a (L_sel O A _ _ HO.out)).block rfl, (But.of_below HB.out).set _ _⟩
        · rw [if_neg hb] at ha
          rw [ha, if_neg (by decide), if_neg (by decide)]
          have hne : y = -2 := he.2 (by simpa using hb)
          subst hne
          clear he hy hn4 ha hb HY
          go_enter Try.func22, Try.ntmps22
          go_wp2
          go_ret2
          exact ⟨rfl, HS.out.block rfl, But.of_below (by repeat (first | (with_reducible first | exact HB.out | apply below_alloc | apply pw_below_drewN | apply below_drew1) | exact HB.out))⟩
set_option maxHeartbeats 8000000 in
theorem rOpen_ok (g : Nat) (O : Nat → Bool) (A : Nat → Int) (w : World) (h : Rt w g O A) (hv : Inv O A) : Calls Try.prog 20 #[.pointer (some ⟨g, 0, none⟩)] w fun e w' => e = .returned (.tuple #[.int .i64 (opS (closed O 4 0)).1, .int .i64 (opS (closed O 4 0)).2]) ∧ Rt w' g (opO O (closed O 4 0)) (opA A (closed O 4 0)) ∧ But g w w' := by
  have HB := Aside0.mk (Below.refl w.heap.size w)
  have HS := Aside0.mk h
  have HV := Aside0.mk hv
  clear h hv
  have hu54 := Try.underlying54
  have hu52 := Try.underlying52
  obtain ⟨C, hC⟩ : ∃ C_ : Option Nat, C_ = closed O 4 0 := ⟨_, rfl⟩
  rw [← hC]
  have HC := Aside0.mk hC
  clear hC
  go_enter Try.func20, Try.ntmps20
  go_wp2
  go_loopg [4] 4 (fun kq v4 w' => ∃ x : Int, v4 = .int .i64 x ∧ Aside0 (0 ≤ x ∧ (kq : Int) + x = 4) ∧ Aside0 (closed O kq x.toNat = C) ∧ Aside0 (Rt w' g O A) ∧ Aside0 (Below w.heap.size w w'))
  case atStart => exact ⟨0, rfl, ⟨by decide⟩, ⟨HC.out.symm⟩, ⟨HS.out.block rfl⟩, ⟨by repeat (first | (with_reducible first | exact HB.out | apply below_alloc | apply pw_below_drewN | apply below_drew1) | exact HB.out)⟩⟩
  case round =>
    clear HB HS
    obtain ⟨x, rfl, HI, HA, HS, HB⟩ := hrel
    cases gk with
    | zero =>
      have e4 : x = 4 := by have := HI.out; omega
      subst e4
      have hA := HA.out
      unfold closed at hA
      subst hA
      go_wp2
      go_ret2
      exact ⟨rfl, HS.out.block rfl, But.of_below (by repeat (first | (with_reducible first | exact HB.out | apply below_alloc | apply pw_below_drewN | apply below_drew1) | exact HB.out))⟩
    | succ k1 =>
      have hi4 : x.toNat < 4 := by have := HI.out; omega
      have Q4 := Aside0.mk hi4
      have hl := HS.out.at_ hi4
      have he := L_eq HV.out hi4
      have hb1 : decide (x < 4) = true := decide_eq_true (by have := HI.out; omega)
      have q1 := eq_true (show (0 : Int) ≤ x by have := HI.out; omega)
      have q2 := eq_true (show x < 4 by have := HI.out; omega)
      have hw : wrap64 (x + 1) = x + 1 := by have := HI.out; unfold wrap64; omega
      have HW := Aside0.mk hw
      clear hw hi4
      have hA := HA.out
      unfold closed at hA
      clear HA
      have hf1 := HS.out.frozen x.toNat
      obtain ⟨y, hy⟩ : ∃ y_ : Int, y_ = L O A x.toNat := ⟨_, rfl⟩
      rw [← hy] at hl he
      clear hy
      by_cases hb : O x.toNat = false
      · rw [if_pos hb] at hA
        have hx : ((x.toNat : Nat) : Int) = x := Int.toNat_of_nonneg (of_eq_true q1)
        have HX := Aside0.mk hx
        clear hx
        have HA := Aside0.mk hA
        clear hA
        have hne : y = -2 := he.2 hb
        subst hne
        clear he hb
        go_wp2
        go_ret2
        have e_ : opS C = (x, 0) := by rw [← HA.out]; simp only [opS, HX.out]
        exact ⟨by rw [e_]; rfl, by rw [← HA.out]; exact HS.out.set Q4.out (-1) (L_open O A _ _), (But.of_below HB.out).set _ _⟩
      · rw [if_neg hb] at hA
        have HA := Aside0.mk hA
        clear hA
        have hne : y ≠ -2 := fun h => hb (he.1 h)
        have e1 : (y == -2) = false := beq_eq_false_iff_ne.mpr hne
        have e2 : decide (y = -2) = false := decide_eq_false hne
        clear he hne hb
        go_wp2
        go_roundg k1
        case measure => omega
        case rel => exact ⟨x + 1, by rw [HW.out], ⟨by have := HI.out; omega⟩, ⟨by rw [show (x + 1).toNat = x.toNat + 1 from by have := HI.out; omega]; exact HA.out⟩, ⟨HS.out.block rfl⟩, ⟨by repeat (first | (with_reducible first | exact HB.out | apply below_alloc | apply pw_below_drewN | apply below_drew1) | exact HB.out)⟩⟩
end Go.Proofs.YtkfaimhjdfpjhaaW.Chans
