import Derived.Test.YtkfaimhjdfpjhaaProg
import Derived.Below
import Derived.Deep.Draws
import Derived.Deep.AppendLies
import Derived.Maps.AppendAt
import Derived.OwnWalk
import Derived.Laws.BytesArg
import Derived.Laws.MakeOwn
import Derived.Laws.OwnMore
import Derived.Deep.OwnRows
import Derived.Tactics
import Derived.Lib.ConvBytes
import Derived.Laws.Slices
import Derived.WalkKit
import Derived.KernelRfl
import Derived.RowKit3
import Derived.Deep.LoopGhost
import Derived.Deep.QuietTactic
import Derived.BigQuiet
import Derived.WideLaws
import Derived.Deep.DeepCutAuto
import Derived.Deep.CutBlock
import Derived.Deep.RegionHeld3
import Derived.Laws.Rows
import Derived.Lib.AppendStr
import Derived.ArgAppend
import Derived.Laws.IdiomCopy
import Derived.OrdersHeld
import Derived.Laws.BitsLemmas
import Derived.RowKit
import Derived.Test.YtkfaimhjdfpjhaaWWords
import Derived.Test.YtkfaimhjdfpjhaaWLast
import Derived.Test.YtkfaimhjdfpjhaaWTab
import Derived.Test.YtkfaimhjdfpjhaaWFour
import Derived.Test.YtkfaimhjdfpjhaaWQPut
import Derived.Test.YtkfaimhjdfpjhaaWApart
import Derived.Test.YtkfaimhjdfpjhaaWArr
import Derived.Test.YtkfaimhjdfpjhaaWZeros
import Derived.Test.YtkfaimhjdfpjhaaWFoot
import Derived.Test.YtkfaimhjdfpjhaaWKept
import Derived.Test.YtkfaimhjdfpjhaaWShare
import Derived.Test.YtkfaimhjdfpjhaaWN
import Derived.Test.YtkfaimhjdfpjhaaWFootNe
import Derived.Test.YtkfaimhjdfpjhaaWAt
import Derived.Test.YtkfaimhjdfpjhaaWEqStruct
import Derived.Test.YtkfaimhjdfpjhaaWRepsOne
import Derived.Test.YtkfaimhjdfpjhaaWInv
import Derived.Test.YtkfaimhjdfpjhaaWInvWords
import Derived.Test.YtkfaimhjdfpjhaaWGuard
import Derived.Test.YtkfaimhjdfpjhaaWNEv
import Derived.Test.YtkfaimhjdfpjhaaWMore
import Derived.Test.YtkfaimhjdfpjhaaCh3
namespace Go.Proofs.YtkfaimhjdfpjhaaW.Chans
open Go Go.RowKit Go.Proofs Go.Proofs.YtkfaimhjdfpjhaaW.PrintWords Go.Proofs.YtkfaimhjdfpjhaaW.PrintLast Go.Proofs.YtkfaimhjdfpjhaaW.PrintMore
set_option linter.unusedVariables false
set_option linter.unusedSimpArgs false

set_option maxHeartbeats 4000000 in
theorem Open_no (p : Option Addr) (w : World) (h : No w p) : Calls Try.prog 10 #[.pointer p] w fun e w' => e = .returned (.tuple #[.int .i64 0, .int .i64 1]) ∧ Below w.heap.size w w' := by
  have HB := Aside0.mk (Below.refl w.heap.size w)
  have HN := Aside0.mk h
  clear h
  go_enter Try.func10, Try.ntmps10
  go_wp2_with (first | (go_at_call 18; (with_reducible refine (ask_no p 0 0 _ (HN.out.drew rfl)).mono ?_); rintro e w1 ⟨rfl, hb⟩; have n1_ := Aside0.mk (below_step (by repeat (first | (with_reducible first | exact HB.out | apply below_alloc | apply pw_below_drewN | apply below_drew1) | exact HB.out)) hb); clear HB hb; have HB := n1_; clear n1_))
  go_ret2
  exact ⟨rfl, by repeat (first | (with_reducible first | exact HB.out | apply below_alloc | apply pw_below_drewN | apply below_drew1) | exact HB.out)⟩
set_option maxHeartbeats 4000000 in
theorem Reset_no (p : Option Addr) (w : World) (h : No w p) : Calls Try.prog 14 #[.pointer p] w fun e w' => e = .returned (.int .i64 1) ∧ Below w.heap.size w w' := by
  have HB := Aside0.mk (Below.refl w.heap.size w)
  have HN := Aside0.mk h
  clear h
  go_enter Try.func14, Try.ntmps14
  go_wp2_with (first | (go_at_call 18; (with_reducible refine (ask_no p 0 0 _ (HN.out.drew rfl)).mono ?_); rintro e w1 ⟨rfl, hb⟩; have n1_ := Aside0.mk (below_step (by repeat (first | (with_reducible first | exact HB.out | apply below_alloc | apply pw_below_drewN | apply below_drew1) | exact HB.out)) hb); clear HB hb; have HB := n1_; clear n1_))
  go_ret
  exact ⟨rfl, by repeat (first | (with_reducible first | exact HB.out | apply below_alloc | apply pw_below_drewN | apply below_drew1) | exact HB.out)⟩
set_option maxHeartbeats 4000000 in
theorem Drop_no (p : Option Addr) (a : Int) (w : World) (h : No w p) : Calls Try.prog 13 #[.pointer p, .int .i64 a] w fun e w' => e = .returned (.slice none 0 0) ∧ Below w.heap.size w w' := by
  have HB := Aside0.mk (Below.refl w.heap.size w)
  have HN := Aside0.mk h
  clear h
  go_enter Try.func13, Try.ntmps13
  go_wp2_with (first | (go_at_call 9; (with_reducible refine (On_no p a _ (HN.out.drew rfl)).mono ?_); rintro e w1 ⟨rfl, hb⟩; have n1_ := Aside0.mk (below_step (by repeat (first | (with_reducible first | exact HB.out | apply below_alloc | apply pw_below_drewN | apply below_drew1) | exact HB.out)) hb); clear HB hb; have HB := n1_; clear n1_))
  go_loopg [5, 7] 1 (fun kq v5 v7 w' => v5 = .slice none 0 0 ∧ v7 = .bool false ∧ Aside0 (Below w.heap.size w w'))
  case atStart => exact ⟨rfl, rfl, ⟨by repeat (first | (with_reducible first | exact HB.out | apply below_alloc | apply pw_below_drewN | apply below_drew1) | exact HB.out)⟩⟩
  case round =>
    clear HB
    obtain ⟨rfl, rfl, HB⟩ := hrel
    go_wp2
    go_ret
    exact ⟨rfl, by repeat (first | (with_reducible first | exact HB.out | apply below_alloc | apply pw_below_drewN | apply below_drew1) | exact HB.out)⟩
/-- the first of the channels from i on, d of them, that is closed. -/
def closed (O : Nat → Bool) : Nat → Nat → Option Nat
  | 0, _ => none
  | d + 1, i => if O i = false then some i else closed O d (i + 1)
def opS (c : Option Nat) : Int × Int := match c with | some i => ((i : Int), 0) | none => (0, 11)
def opO (O : Nat → Bool) (c : Option Nat) : Nat → Bool := match c with | some i => upd O i true | none => O
def opA (A : Nat → Int) (c : Option Nat) : Nat → Int := match c with | some i => upd A i (-1) | none => A
set_option maxHeartbeats 8000000 in
theorem Open_ok (g : Nat) (O : Nat → Bool) (A : Nat → Int) (w : World) (h : St w g true O A) (h00 : O 0 = true) : Calls Try.prog 10 #[.pointer (some ⟨g, 0, none⟩)] w fun e w' => e = .returned (.tuple #[.int .i64 (opS (closed O 4 0)).1, .int .i64 (opS (closed O 4 0)).2]) ∧ St w' g true (opO O (closed O 4 0)) (opA A (closed O 4 0)) ∧ But g w w' := by
  have HB := Aside0.mk (Below.refl w.heap.size w)
  have HS := Aside0.mk h
  clear h
  have hu38 := Try.underlying38
  have hu36 := Try.underlying36
  have hu35 := Try.underlying35
  have HK := Aside0.mk (show askS O 0 0 = 0 by unfold askS; rw [if_neg (by decide), if_neg (by decide)]; exact if_pos h00)
  clear h00
  obtain ⟨C, hC⟩ : ∃ C_ : Option Nat, C_ = closed O 4 0 := ⟨_, rfl⟩
  rw [← hC]
  have HC := Aside0.mk hC
  clear hC
  go_enter Try.func10, Try.ntmps10
  go_wp2_with (first | (go_at_call 18; (with_reducible refine (ask_ok g O A 0 0 _ (HS.out.block rfl) (by decide)).mono ?_); rintro e w1 ⟨rfl, hb⟩; rw [HK.out]; have n0_ := Aside0.mk (HS.out.block (hb.block _ HS.out.lt)); have n1_ := Aside0.mk (below_step (by repeat (first | (with_reducible first | exact HB.out | apply below_alloc | apply pw_below_drewN | apply below_drew1) | exact HB.out)) hb); clear HB HS hb; have HS := n0_; have HB := n1_; clear n0_ n1_))
  go_loopg [11] 4 (fun kq v11 w' => ∃ x : Int, v11 = .int .i64 x ∧ Aside0 (0 ≤ x ∧ (kq : Int) + x = 4) ∧ Aside0 (closed O kq x.toNat = C) ∧ Aside0 (St w' g true O A) ∧ Aside0 (Below w.heap.size w w'))
  case atStart => exact ⟨0, rfl, ⟨by decide⟩, ⟨HC.out.symm⟩, ⟨HS.out.block rfl⟩, ⟨by repeat (first | (with_reducible first | exact HB.out | apply below_alloc | apply pw_below_drewN | apply below_drew1) | exact HB.out)⟩⟩
  case round =>
    clear HB HS
    obtain ⟨x, rfl, HI, HA, HS, HB⟩ := hrel
    cases gk with
    | zero =>
      have e4 : x = 4 := by have := HI.out; omega
      subst e4
      have hA := HA.out
      unfold closed at hA
      subst hA
      go_wp2
      go_ret2
      exact ⟨rfl, HS.out.block rfl, But.of_below (by repeat (first | (with_reducible first | exact HB.out | apply below_alloc | apply pw_below_drewN | apply below_drew1) | exact HB.out))⟩
    | succ k1 =>
      have hi4 : x.toNat < 4 := by have := HI.out; omega
      have Q4 := Aside0.mk hi4
      have ho := HS.out.open_ hi4
      have ha := HS.out.app hi4
      have hb1 : decide (x < 4) = true := decide_eq_true (by have := HI.out; omega)
      have q1 := eq_true (show (0 : Int) ≤ x by have := HI.out; omega)
      have q2 := eq_true (show x < 4 by have := HI.out; omega)
      have hw : wrap64 (x + 1) = x + 1 := by have := HI.out; unfold wrap64; omega
      have HW := Aside0.mk hw
      clear hw hi4
      have hA := HA.out
      unfold closed at hA
      clear HA
      have hf1 := HS.out.frozen (1 + x.toNat * 2)
      have hf2 := HS.out.frozen (1 + x.toNat * 2 + 1)
      obtain ⟨b, hb⟩ : ∃ b_ : Bool, b_ = O x.toNat := ⟨_, rfl⟩
      rw [← hb] at ho hA
      have HBB := Aside0.mk hb
      clear hb
      cases b with
      | false =>
        rw [if_pos rfl] at hA
        have hx : ((x.toNat : Nat) : Int) = x := Int.toNat_of_nonneg (of_eq_true q1)
        have HX := Aside0.mk hx
        clear hx
        have HA := Aside0.mk hA
        clear hA
        go_wp2
        go_ret2
        have e_ : opS C = (x, 0) := by rw [← HA.out]; simp only [opS, HX.out]
        exact ⟨by rw [e_]; rfl, by rw [← HA.out]; exact (HS.out.setOpen Q4.out true).setApp Q4.out (-1), ((But.of_below HB.out).set _ _).set _ _⟩
      | true =>
        rw [if_neg (by decide)] at hA
        have HA := Aside0.mk hA
        clear hA
        go_wp2
        go_roundg k1
        case measure => omega
        case rel => exact ⟨x + 1, by rw [HW.out], ⟨by have := HI.out; omega⟩, ⟨by rw [show (x + 1).toNat = x.toNat + 1 from by have := HI.out; omega]; exact HA.out⟩, ⟨HS.out.block rfl⟩, ⟨by repeat (first | (with_reducible first | exact HB.out | apply below_alloc | apply pw_below_drewN | apply below_drew1) | exact HB.out)⟩⟩
end Go.Proofs.YtkfaimhjdfpjhaaW.Chans
