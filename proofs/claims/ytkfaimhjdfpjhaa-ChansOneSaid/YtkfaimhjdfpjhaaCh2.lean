import Derived.Test.YtkfaimhjdfpjhaaProg
import Derived.Below
import Derived.Deep.Draws
import Derived.Deep.AppendLies
import Derived.Maps.AppendAt
import Derived.OwnWalk
import Derived.Laws.BytesArg
import Derived.Laws.MakeOwn
import Derived.Laws.OwnMore
import Derived.Deep.OwnRows
import Derived.Tactics
import Derived.Lib.ConvBytes
import Derived.Laws.Slices
import Derived.WalkKit
import Derived.KernelRfl
import Derived.RowKit3
import Derived.Deep.LoopGhost
import Derived.Deep.QuietTactic
import Derived.BigQuiet
import Derived.WideLaws
import Derived.Deep.DeepCutAuto
import Derived.Deep.CutBlock
import Derived.Deep.RegionHeld3
import Derived.Laws.Rows
import Derived.Lib.AppendStr
import Derived.ArgAppend
import Derived.Laws.IdiomCopy
import Derived.OrdersHeld
import Derived.Laws.BitsLemmas
import Derived.RowKit
import Derived.Test.YtkfaimhjdfpjhaaWWords
import Derived.Test.YtkfaimhjdfpjhaaWLast
import Derived.Test.YtkfaimhjdfpjhaaWTab
import Derived.Test.YtkfaimhjdfpjhaaWFour
import Derived.Test.YtkfaimhjdfpjhaaWQPut
import Derived.Test.YtkfaimhjdfpjhaaWApart
import Derived.Test.YtkfaimhjdfpjhaaWArr
import Derived.Test.YtkfaimhjdfpjhaaWZeros
import Derived.Test.YtkfaimhjdfpjhaaWFoot
import Derived.Test.YtkfaimhjdfpjhaaWKept
import Derived.Test.YtkfaimhjdfpjhaaWShare
import Derived.Test.YtkfaimhjdfpjhaaWN
import Derived.Test.YtkfaimhjdfpjhaaWFootNe
import Derived.Test.YtkfaimhjdfpjhaaWAt
import Derived.Test.YtkfaimhjdfpjhaaWEqStruct
import Derived.Test.YtkfaimhjdfpjhaaWRepsOne
import Derived.Test.YtkfaimhjdfpjhaaWInv
import Derived.Test.YtkfaimhjdfpjhaaWInvWords
import Derived.Test.YtkfaimhjdfpjhaaWGuard
import Derived.Test.YtkfaimhjdfpjhaaWNEv
import Derived.Test.YtkfaimhjdfpjhaaWMore
import Derived.Test.YtkfaimhjdfpjhaaCh1
namespace Go.Proofs.YtkfaimhjdfpjhaaW.Chans
open Go Go.RowKit Go.Proofs Go.Proofs.YtkfaimhjdfpjhaaW.PrintWords Go.Proofs.YtkfaimhjdfpjhaaW.PrintLast Go.Proofs.YtkfaimhjdfpjhaaW.PrintMore
set_option linter.unusedVariables false
set_option linter.unusedSimpArgs false

/-- none, or a zero one. -/
def No (w : World) (p : Option Addr) : Prop := p = none ∨ ∃ g O A, p = some ⟨g, 0, none⟩ ∧ St w g false O A
theorem No.below {w w' : World} {p : Option Addr} (h : No w p) (hb : Below w.heap.size w w') : No w' p := by
  rcases h with h | ⟨g, O, A, h, hs⟩
  · exact .inl h
  · exact .inr ⟨g, O, A, h, hs.below hb⟩
theorem No.drew {w w' : World} {p : Option Addr} (h : No w p) (hb : w'.heap = w.heap) : No w' p := by
  rcases h with h | ⟨g, O, A, h, hs⟩
  · exact .inl h
  · exact .inr ⟨g, O, A, h, hs.block (by rw [hb])⟩
theorem ask_no (p : Option Addr) (n f : Int) (w : World) (h : No w p) : Calls Try.prog 18 #[.pointer p, .int .i64 n, .int .i64 f] w fun e w' => e = .returned (.int .i64 1) ∧ Below w.heap.size w w' := by
  rcases h with rfl | ⟨g, O, A, rfl, hs⟩
  · exact ask_nil n f w
  · exact ask_zero g O A n f w hs
def selS (O : Nat → Bool) (A : Nat → Int) (n : Int) : Int × Int := if askS O n 0 = 0 then (A n.toNat, 0) else (0, askS O n 0)
set_option maxHeartbeats 4000000 in
theorem Selected_no (p : Option Addr) (n : Int) (w : World) (h : No w p) : Calls Try.prog 8 #[.pointer p, .int .i64 n] w fun e w' => e = .returned (.tuple #[.int .i64 0, .int .i64 1]) ∧ Below w.heap.size w w' := by
  have HB := Aside0.mk (Below.refl w.heap.size w)
  have HN := Aside0.mk h
  clear h
  go_enter Try.func8, Try.ntmps8
  go_wp2_with (first | (go_at_call 18; (with_reducible refine (ask_no p n 0 _ (HN.out.drew rfl)).mono ?_); rintro e w1 ⟨rfl, hb⟩; have n1_ := Aside0.mk (below_step (by repeat (first | (with_reducible first | exact HB.out | apply below_alloc | apply pw_below_drewN | apply below_drew1) | exact HB.out)) hb); clear HB hb; have HB := n1_; clear n1_))
  go_ret2
  exact ⟨rfl, by repeat (first | (with_reducible first | exact HB.out | apply below_alloc | apply pw_below_drewN | apply below_drew1) | exact HB.out)⟩
theorem askS_zero {O : Nat → Bool} {n f : Int} (h : askS O n f = 0) : f ≤ n ∧ n < 4 ∧ O n.toNat = true := by
  unfold askS at h
  by_cases c1 : n < f
  · rw [if_pos c1] at h; exact absurd h (by decide)
  · rw [if_neg c1] at h
    by_cases c2 : 4 ≤ n
    · rw [if_pos c2] at h; exact absurd h (by decide)
    · rw [if_neg c2] at h
      by_cases c3 : O n.toNat = true
      · exact ⟨by omega, by omega, c3⟩
      · rw [if_neg c3] at h; exact absurd h (by decide)
set_option maxHeartbeats 4000000 in
theorem Selected_ok (g : Nat) (O : Nat → Bool) (A : Nat → Int) (n : Int) (w : World) (h : St w g true O A) : Calls Try.prog 8 #[.pointer (some ⟨g, 0, none⟩), .int .i64 n] w fun e w' => e = .returned (.tuple #[.int .i64 (selS O A n).1, .int .i64 (selS O A n).2]) ∧ Below w.heap.size w w' := by
  have HB := Aside0.mk (Below.refl w.heap.size w)
  have HS := Aside0.mk h
  clear h
  have hu38 := Try.underlying38
  have hu36 := Try.underlying36
  have hu35 := Try.underlying35
  obtain ⟨⟨r1, r2⟩, hR⟩ : ∃ R_ : Int × Int, R_ = selS O A n := ⟨_, rfl⟩
  rw [← hR]
  unfold selS at hR
  obtain ⟨k, hk⟩ : ∃ k_ : Int, k_ = askS O n 0 := ⟨_, rfl⟩
  rw [← hk] at hR
  have HK := Aside0.mk hk
  clear hk
  by_cases c : k = 0
  · rw [if_pos c] at hR
    obtain ⟨q1, q2, q3⟩ := askS_zero (HK.out.symm.trans c)
    simp only [Prod.mk.injEq] at hR
    obtain ⟨rfl, rfl⟩ := hR
    have Q4 := Aside0.mk (show n.toNat < 4 by omega)
    replace q1 := eq_true q1
    replace q2 := eq_true q2
    subst c
    go_enter Try.func8, Try.ntmps8
    go_wp2_with (first | (go_at_call 18; (with_reducible refine (ask_ok g O A n 0 _ (HS.out.block rfl) (by decide)).mono ?_); rintro e w1 ⟨rfl, hb⟩; rw [← HK.out]; have n0_ := Aside0.mk (HS.out.block (hb.block _ HS.out.lt)); have n1_ := Aside0.mk (below_step (by repeat (first | (with_reducible first | exact HB.out | apply below_alloc | apply pw_below_drewN | apply below_drew1) | exact HB.out)) hb); clear HB HS hb; have HS := n0_; have HB := n1_; clear n0_ n1_; have ha := HS.out.app Q4.out))
    go_ret2
    exact ⟨rfl, by repeat (first | (with_reducible first | exact HB.out | apply below_alloc | apply pw_below_drewN | apply below_drew1) | exact HB.out)⟩
  · rw [if_neg c] at hR
    simp only [Prod.mk.injEq] at hR
    obtain ⟨rfl, rfl⟩ := hR
    have cb : (r2 != 0) = true := bne_iff_ne.mpr c
    have cc : (r2 == 0) = false := beq_eq_false_iff_ne.mpr c
    clear c
    go_enter Try.func8, Try.ntmps8
    go_wp2_with (first | (go_at_call 18; (with_reducible refine (ask_ok g O A n 0 _ (HS.out.block rfl) (by decide)).mono ?_); rintro e w1 ⟨rfl, hb⟩; rw [← HK.out]; have n1_ := Aside0.mk (below_step (by repeat (first | (with_reducible first | exact HB.out | apply below_alloc | apply pw_below_drewN | apply below_drew1) | exact HB.out)) hb); clear HB hb; have HB := n1_; clear n1_))
    go_ret2
    exact ⟨rfl, by repeat (first | (with_reducible first | exact HB.out | apply below_alloc | apply pw_below_drewN | apply below_drew1) | exact HB.out)⟩
/-- the first of the channels from i on, d of them, that is open with a. -/
def scan (O : Nat → Bool) (A : Nat → Int) (a : Int) : Nat → Nat → Int × Bool
  | 0, _ => (0, false)
  | d + 1, i => if O i = true ∧ A i = a then ((i : Int), true) else scan O A a d (i + 1)
def onS (O : Nat → Bool) (A : Nat → Int) (a : Int) : Int × Bool := if askS O 0 0 = 0 then (if a < 0 then (0, false) else scan O A a 4 0) else (0, false)
set_option maxHeartbeats 4000000 in
theorem On_no (p : Option Addr) (a : Int) (w : World) (h : No w p) : Calls Try.prog 9 #[.pointer p, .int .i64 a] w fun e w' => e = .returned (.tuple #[.int .i64 0, .bool false]) ∧ Below w.heap.size w w' := by
  have HB := Aside0.mk (Below.refl w.heap.size w)
  have HN := Aside0.mk h
  clear h
  go_enter Try.func9, Try.ntmps9
  go_wp2_with (first | (go_at_call 18; (with_reducible refine (ask_no p 0 0 _ (HN.out.drew rfl)).mono ?_); rintro e w1 ⟨rfl, hb⟩; have n1_ := Aside0.mk (below_step (by repeat (first | (with_reducible first | exact HB.out | apply below_alloc | apply pw_below_drewN | apply below_drew1) | exact HB.out)) hb); clear HB hb; have HB := n1_; clear n1_))
  go_ret2
  exact ⟨rfl, by repeat (first | (with_reducible first | exact HB.out | apply below_alloc | apply pw_below_drewN | apply below_drew1) | exact HB.out)⟩
set_option maxHeartbeats 4000000 in
theorem On_ok (g : Nat) (O : Nat → Bool) (A : Nat → Int) (a : Int) (w : World) (h : St w g true O A) : Calls Try.prog 9 #[.pointer (some ⟨g, 0, none⟩), .int .i64 a] w fun e w' => e = .returned (.tuple #[.int .i64 (onS O A a).1, .bool (onS O A a).2]) ∧ Below w.heap.size w w' := by
  have HB := Aside0.mk (Below.refl w.heap.size w)
  have HS := Aside0.mk h
  clear h
  have hu38 := Try.underlying38
  have hu36 := Try.underlying36
  have hu35 := Try.underlying35
  obtain ⟨⟨r1, r2⟩, hR⟩ : ∃ R_ : Int × Bool, R_ = onS O A a := ⟨_, rfl⟩
  rw [← hR]
  unfold onS at hR
  obtain ⟨k, hk⟩ : ∃ k_ : Int, k_ = askS O 0 0 := ⟨_, rfl⟩
  rw [← hk] at hR
  have HK := Aside0.mk hk
  clear hk
  by_cases c : k = 0
  · rw [if_pos c] at hR
    subst c
    by_cases c2 : a < 0
    · rw [if_pos c2] at hR
      have c2b : decide (a < 0) = true := decide_eq_true c2
      clear c2
      simp only [Prod.mk.injEq] at hR
      obtain ⟨rfl, rfl⟩ := hR
      go_enter Try.func9, Try.ntmps9
      go_wp2_with (first | (go_at_call 18; (with_reducible refine (ask_ok g O A 0 0 _ (HS.out.block rfl) (by decide)).mono ?_); rintro e w1 ⟨rfl, hb⟩; rw [← HK.out]; have n1_ := Aside0.mk (below_step (by repeat (first | (with_reducible first | exact HB.out | apply below_alloc | apply pw_below_drewN | apply below_drew1) | exact HB.out)) hb); clear HB hb; have HB := n1_; clear n1_))
      go_ret2
      exact ⟨rfl, by repeat (first | (with_reducible first | exact HB.out | apply below_alloc | apply pw_below_drewN | apply below_drew1) | exact HB.out)⟩
    · rw [if_neg c2] at hR
      have c2b : decide (a < 0) = false := decide_eq_false c2
      clear c2
      have HR := Aside0.mk hR
      clear hR
      go_enter Try.func9, Try.ntmps9
      go_wp2_with (first | (go_at_call 18; (with_reducible refine (ask_ok g O A 0 0 _ (HS.out.block rfl) (by decide)).mono ?_); rintro e w1 ⟨rfl, hb⟩; rw [← HK.out]; have n0_ := Aside0.mk (HS.out.block (hb.block _ HS.out.lt)); have n1_ := Aside0.mk (below_step (by repeat (first | (with_reducible first | exact HB.out | apply below_alloc | apply pw_below_drewN | apply below_drew1) | exact HB.out)) hb); clear HB HS hb; have HS := n0_; have HB := n1_; clear n0_ n1_))
      go_loopg [14] 4 (fun kq v14 w' => ∃ x : Int, v14 = .int .i64 x ∧ Aside0 (0 ≤ x ∧ (kq : Int) + x = 4) ∧ Aside0 (scan O A a kq x.toNat = (r1, r2)) ∧ Aside0 (St w' g true O A) ∧ Aside0 (Below w.heap.size w w'))
      case atStart => exact ⟨0, rfl, ⟨by decide⟩, ⟨HR.out.symm⟩, ⟨HS.out.block rfl⟩, ⟨by repeat (first | (with_reducible first | exact HB.out | apply below_alloc | apply pw_below_drewN | apply below_drew1) | exact HB.out)⟩⟩
      case round =>
        clear HB HS
        obtain ⟨x, rfl, HI, HA, HS, HB⟩ := hrel
        cases gk with
        | zero =>
          have e4 : x = 4 := by have := HI.out; omega
          subst e4
          have hA := HA.out
          unfold scan at hA
          simp only [Prod.mk.injEq] at hA
          obtain ⟨rfl, rfl⟩ := hA
          go_wp2
          go_ret2
          exact ⟨rfl, by repeat (first | (with_reducible first | exact HB.out | apply below_alloc | apply pw_below_drewN | apply below_drew1) | exact HB.out)⟩
        | succ k1 =>
          have hi4 : x.toNat < 4 := by have := HI.out; omega
          have ho := HS.out.open_ hi4
          have ha := HS.out.app hi4
          have hb1 : decide (x < 4) = true := decide_eq_true (by have := HI.out; omega)
          have q1 := eq_true (show (0 : Int) ≤ x by have := HI.out; omega)
          have q2 := eq_true (show x < 4 by have := HI.out; omega)
          have hw : wrap64 (x + 1) = x + 1 := by have := HI.out; unfold wrap64; omega
          have HW := Aside0.mk hw
          clear hw hi4
          have hA := HA.out
          unfold scan at hA
          clear HA
          have hx : ((x.toNat : Nat) : Int) = x := Int.toNat_of_nonneg (of_eq_true q1)
          rw [hx] at hA
          clear hx
          obtain ⟨b, hb⟩ : ∃ b_ : Bool, b_ = O x.toNat := ⟨_, rfl⟩
          obtain ⟨y, hy⟩ : ∃ y_ : Int, y_ = A x.toNat := ⟨_, rfl⟩
          rw [← hb] at ho hA
          rw [← hy] at ha hA
          clear hb hy
          cases b with
          | true =>
            by_cases c3 : y = a
            · rw [if_pos ⟨rfl, c3⟩] at hA
              simp only [Prod.mk.injEq] at hA
              obtain ⟨rfl, rfl⟩ := hA
              have c3b : (y == a) = true := beq_iff_eq.mpr c3
              clear c3
              go_wp2
              go_ret2
              exact ⟨rfl, by repeat (first | (with_reducible first | exact HB.out | apply below_alloc | apply pw_below_drewN | apply below_drew1) | exact HB.out)⟩
            · rw [if_neg (fun h => c3 h.2)] at hA
              have c3b : (y == a) = false := beq_eq_false_iff_ne.mpr c3
              clear c3
              have HA := Aside0.mk hA
              clear hA
              go_wp2
              go_roundg k1
              case measure => omega
              case rel => exact ⟨x + 1, by rw [HW.out], ⟨by have := HI.out; omega⟩, ⟨by rw [show (x + 1).toNat = x.toNat + 1 from by have := HI.out; omega]; exact HA.out⟩, ⟨HS.out.block rfl⟩, ⟨by repeat (first | (with_reducible first | exact HB.out | apply below_alloc | apply pw_below_drewN | apply below_drew1) | exact HB.out)⟩⟩
          | false =>
            rw [if_neg (fun h => absurd h.1 (by decide))] at hA
            have HA := Aside0.mk hA
            clear hA
            go_wp2
            go_roundg k1
            case measure => omega
            case rel => exact ⟨x + 1, by rw [HW.out], ⟨by have := HI.out; omega⟩, ⟨by rw [show (x + 1).toNat = x.toNat + 1 from by have := HI.out; omega]; exact HA.out⟩, ⟨HS.out.block rfl⟩, ⟨by repeat (first | (with_reducible first | exact HB.out | apply below_alloc | apply pw_below_drewN | apply below_drew1) | exact HB.out)⟩⟩
  · rw [if_neg c] at hR
    simp only [Prod.mk.injEq] at hR
    obtain ⟨rfl, rfl⟩ := hR
    have cb : (k != 0) = true := bne_iff_ne.mpr c
    have cc : (k == 0) = false := beq_eq_false_iff_ne.mpr c
    clear c
    go_enter Try.func9, Try.ntmps9
    go_wp2_with (first | (go_at_call 18; (with_reducible refine (ask_ok g O A 0 0 _ (HS.out.block rfl) (by decide)).mono ?_); rintro e w1 ⟨rfl, hb⟩; rw [← HK.out]; have n1_ := Aside0.mk (below_step (by repeat (first | (with_reducible first | exact HB.out | apply below_alloc | apply pw_below_drewN | apply below_drew1) | exact HB.out)) hb); clear HB hb; have HB := n1_; clear n1_))
    go_ret2
    exact ⟨rfl, by repeat (first | (with_reducible first | exact HB.out | apply below_alloc | apply pw_below_drewN | apply below_drew1) | exact HB.out)⟩
end Go.Proofs.YtkfaimhjdfpjhaaW.Chans
