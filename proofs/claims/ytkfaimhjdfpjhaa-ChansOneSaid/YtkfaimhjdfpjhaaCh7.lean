import Derived.Test.YtkfaimhjdfpjhaaProg
import Derived.Below
import Derived.Deep.Draws
import Derived.Deep.AppendLies
import Derived.Maps.AppendAt
import Derived.OwnWalk
import Derived.Laws.BytesArg
import Derived.Laws.MakeOwn
import Derived.Laws.OwnMore
import Derived.Deep.OwnRows
import Derived.Tactics
import Derived.Lib.ConvBytes
import Derived.Laws.Slices
import Derived.WalkKit
import Derived.KernelRfl
import Derived.RowKit3
import Derived.Deep.LoopGhost
import Derived.Deep.QuietTactic
import Derived.BigQuiet
import Derived.WideLaws
import Derived.Deep.DeepCutAuto
import Derived.Deep.CutBlock
import Derived.Deep.RegionHeld3
import Derived.Laws.Rows
import Derived.Lib.AppendStr
import Derived.ArgAppend
import Derived.Laws.IdiomCopy
import Derived.OrdersHeld
import Derived.Laws.BitsLemmas
import Derived.RowKit
import Derived.Test.YtkfaimhjdfpjhaaWWords
import Derived.Test.YtkfaimhjdfpjhaaWLast
import Derived.Test.YtkfaimhjdfpjhaaWTab
import Derived.Test.YtkfaimhjdfpjhaaWFour
import Derived.Test.YtkfaimhjdfpjhaaWQPut
import Derived.Test.YtkfaimhjdfpjhaaWApart
import Derived.Test.YtkfaimhjdfpjhaaWArr
import Derived.Test.YtkfaimhjdfpjhaaWZeros
import Derived.Test.YtkfaimhjdfpjhaaWFoot
import Derived.Test.YtkfaimhjdfpjhaaWKept
import Derived.Test.YtkfaimhjdfpjhaaWShare
import Derived.Test.YtkfaimhjdfpjhaaWN
import Derived.Test.YtkfaimhjdfpjhaaWFootNe
import Derived.Test.YtkfaimhjdfpjhaaWAt
import Derived.Test.YtkfaimhjdfpjhaaWEqStruct
import Derived.Test.YtkfaimhjdfpjhaaWRepsOne
import Derived.Test.YtkfaimhjdfpjhaaWInv
import Derived.Test.YtkfaimhjdfpjhaaWInvWords
import Derived.Test.YtkfaimhjdfpjhaaWGuard
import Derived.Test.YtkfaimhjdfpjhaaWNEv
import Derived.Test.YtkfaimhjdfpjhaaWMore
import Derived.Test.YtkfaimhjdfpjhaaMine2
import Derived.Test.YtkfaimhjdfpjhaaCh6
namespace Go.Proofs.YtkfaimhjdfpjhaaW.Chans
open Go Go.RowKit Go.Proofs Go.Proofs.YtkfaimhjdfpjhaaW.PrintWords Go.Proofs.YtkfaimhjdfpjhaaW.PrintLast Go.Proofs.YtkfaimhjdfpjhaaW.PrintMore
set_option linter.unusedVariables false
set_option linter.unusedSimpArgs false

theorem St.none_ {w : World} {g : Nat} (h : w.heap[g]? = some (.cells #[.bool false, .bool false, .int .i64 0, .bool false, .int .i64 0, .bool false, .int .i64 0, .bool false, .int .i64 0] 38 (0, 0))) : St w g false (fun _ => false) (fun _ => 0) := by
  refine ⟨_, h, rfl, rfl, fun n hn => ?_⟩
  match n, hn with
  | 0, _ => exact ⟨rfl, rfl⟩
  | 1, _ => exact ⟨rfl, rfl⟩
  | 2, _ => exact ⟨rfl, rfl⟩
  | 3, _ => exact ⟨rfl, rfl⟩
set_option maxHeartbeats 16000000 in
theorem ChansNil_calls (a0 a1 : Int) (z : Bool) (w : World) : Calls Try.prog 5 #[.int .i64 a0, .int .i64 a1, .bool z] w fun e w' => e = .returned (.bool true) ∧ Below w.heap.size w w' := by
  have HB := Aside0.mk (Below.refl w.heap.size w)
  have hu38 := Try.underlying38
  have hu36 := Try.underlying36
  have hu35 := Try.underlying35
  cases z with
  | false =>
    obtain ⟨p, hp⟩ : ∃ p_ : Option Addr, p_ = none := ⟨_, rfl⟩
    have HN := Aside0.mk (show No w p from .inl hp)
    go_enter Try.func5, Try.ntmps5
    go_upto_region 4 with (fail)
    rw [← hp]
    clear hp
    go_wp2_with (first | (go_at_call 10; (with_reducible refine (Open_no p _ (HN.out.drew rfl)).mono ?_); rintro e w1 ⟨rfl, hb⟩; have n0_ := Aside0.mk (No.below (HN.out.drew rfl) hb); have n1_ := Aside0.mk (below_step (by repeat (first | (with_reducible first | exact HB.out | apply below_alloc | apply pw_below_drewN | apply below_drew1) | exact HB.out)) hb); clear HB HN hb; have HN := n0_; have HB := n1_; clear n0_ n1_) | (go_at_call 11; (with_reducible refine (Close_no p a0 _ (HN.out.drew rfl)).mono ?_); rintro e w1 ⟨rfl, hb⟩; have n0_ := Aside0.mk (No.below (HN.out.drew rfl) hb); have n1_ := Aside0.mk (below_step (by repeat (first | (with_reducible first | exact HB.out | apply below_alloc | apply pw_below_drewN | apply below_drew1) | exact HB.out)) hb); clear HB HN hb; have HN := n0_; have HB := n1_; clear n0_ n1_) | (go_at_call 12; (with_reducible refine (Select_no p a0 a1 _ (HN.out.drew rfl)).mono ?_); rintro e w1 ⟨rfl, hb⟩; have n0_ := Aside0.mk (No.below (HN.out.drew rfl) hb); have n1_ := Aside0.mk (below_step (by repeat (first | (with_reducible first | exact HB.out | apply below_alloc | apply pw_below_drewN | apply below_drew1) | exact HB.out)) hb); clear HB HN hb; have HN := n0_; have HB := n1_; clear n0_ n1_) | (go_at_call 8; (with_reducible refine (Selected_no p a0 _ (HN.out.drew rfl)).mono ?_); rintro e w1 ⟨rfl, hb⟩; have n0_ := Aside0.mk (No.below (HN.out.drew rfl) hb); have n1_ := Aside0.mk (below_step (by repeat (first | (with_reducible first | exact HB.out | apply below_alloc | apply pw_below_drewN | apply below_drew1) | exact HB.out)) hb); clear HB HN hb; have HN := n0_; have HB := n1_; clear n0_ n1_) | (go_at_call 9; (with_reducible refine (On_no p a1 _ (HN.out.drew rfl)).mono ?_); rintro e w1 ⟨rfl, hb⟩; have n0_ := Aside0.mk (No.below (HN.out.drew rfl) hb); have n1_ := Aside0.mk (below_step (by repeat (first | (with_reducible first | exact HB.out | apply below_alloc | apply pw_below_drewN | apply below_drew1) | exact HB.out)) hb); clear HB HN hb; have HN := n0_; have HB := n1_; clear n0_ n1_) | (go_at_call 13; (with_reducible refine (Drop_no p a1 _ (HN.out.drew rfl)).mono ?_); rintro e w1 ⟨rfl, hb⟩; have n0_ := Aside0.mk (No.below (HN.out.drew rfl) hb); have n1_ := Aside0.mk (below_step (by repeat (first | (with_reducible first | exact HB.out | apply below_alloc | apply pw_below_drewN | apply below_drew1) | exact HB.out)) hb); clear HB HN hb; have HN := n0_; have HB := n1_; clear n0_ n1_) | (go_at_call 14; (with_reducible refine (Reset_no p _ (HN.out.drew rfl)).mono ?_); rintro e w1 ⟨rfl, hb⟩; have n0_ := Aside0.mk (No.below (HN.out.drew rfl) hb); have n1_ := Aside0.mk (below_step (by repeat (first | (with_reducible first | exact HB.out | apply below_alloc | apply pw_below_drewN | apply below_drew1) | exact HB.out)) hb); clear HB HN hb; have HN := n0_; have HB := n1_; clear n0_ n1_) | (go_at_call 7; (with_reducible refine (works_calls _).mono ?_); rintro e w1 ⟨rfl, hb⟩; have n1_ := Aside0.mk (below_step (by repeat (first | (with_reducible first | exact HB.out | apply below_alloc | apply pw_below_drewN | apply below_drew1) | exact HB.out)) hb); clear HB hb; have HB := n1_; clear n1_))
    go_ret
    exact ⟨rfl, by repeat (first | (with_reducible first | exact HB.out | apply below_alloc | apply pw_below_drewN | apply below_drew1) | exact HB.out)⟩
  | true =>
    go_enter Try.func5, Try.ntmps5
    go_upto_region 4 with (fail)
    obtain ⟨W, hW⟩ : ∃ W_ : World, W_ = w.alloc (.cells #[.bool false, .bool false, .int .i64 0, .bool false, .int .i64 0, .bool false, .int .i64 0, .bool false, .int .i64 0] 38) := ⟨_, rfl⟩
    obtain ⟨p, hp⟩ : ∃ p_ : Option Addr, p_ = some ⟨w.heap.size, 0, none⟩ := ⟨_, rfl⟩
    rw [← hW, ← hp]
    have HN := Aside0.mk (show No W p from .inr ⟨w.heap.size, _, _, hp, by rw [hW]; exact St.none_ (blk_new _ _)⟩)
    clear HB
    have HB := Aside0.mk (show Below w.heap.size w W by rw [hW]; exact below_alloc (Below.refl _ _) _)
    clear hW hp
    go_wp2_with (first | (go_at_call 10; (with_reducible refine (Open_no p _ (HN.out.drew rfl)).mono ?_); rintro e w1 ⟨rfl, hb⟩; have n0_ := Aside0.mk (No.below (HN.out.drew rfl) hb); have n1_ := Aside0.mk (below_step (by repeat (first | (with_reducible first | exact HB.out | apply below_alloc | apply pw_below_drewN | apply below_drew1) | exact HB.out)) hb); clear HB HN hb; have HN := n0_; have HB := n1_; clear n0_ n1_) | (go_at_call 11; (with_reducible refine (Close_no p a0 _ (HN.out.drew rfl)).mono ?_); rintro e w1 ⟨rfl, hb⟩; have n0_ := Aside0.mk (No.below (HN.out.drew rfl) hb); have n1_ := Aside0.mk (below_step (by repeat (first | (with_reducible first | exact HB.out | apply below_alloc | apply pw_below_drewN | apply below_drew1) | exact HB.out)) hb); clear HB HN hb; have HN := n0_; have HB := n1_; clear n0_ n1_) | (go_at_call 12; (with_reducible refine (Select_no p a0 a1 _ (HN.out.drew rfl)).mono ?_); rintro e w1 ⟨rfl, hb⟩; have n0_ := Aside0.mk (No.below (HN.out.drew rfl) hb); have n1_ := Aside0.mk (below_step (by repeat (first | (with_reducible first | exact HB.out | apply below_alloc | apply pw_below_drewN | apply below_drew1) | exact HB.out)) hb); clear HB HN hb; have HN := n0_; have HB := n1_; clear n0_ n1_) | (go_at_call 8; (with_reducible refine (Selected_no p a0 _ (HN.out.drew rfl)).mono ?_); rintro e w1 ⟨rfl, hb⟩; have n0_ := Aside0.mk (No.below (HN.out.drew rfl) hb); have n1_ := Aside0.mk (below_step (by repeat (first | (with_reducible first | exact HB.out | apply below_alloc | apply pw_below_drewN | apply below_drew1) | exact HB.out)) hb); clear HB HN hb; have HN := n0_; have HB := n1_; clear n0_ n1_) | (go_at_call 9; (with_reducible refine (On_no p a1 _ (HN.out.drew rfl)).mono ?_); rintro e w1 ⟨rfl, hb⟩; have n0_ := Aside0.mk (No.below (HN.out.drew rfl) hb); have n1_ := Aside0.mk (below_step (by repeat (first | (with_reducible first | exact HB.out | apply below_alloc | apply pw_below_drewN | apply below_drew1) | exact HB.out)) hb); clear HB HN hb; have HN := n0_; have HB := n1_; clear n0_ n1_) | (go_at_call 13; (with_reducible refine (Drop_no p a1 _ (HN.out.drew rfl)).mono ?_); rintro e w1 ⟨rfl, hb⟩; have n0_ := Aside0.mk (No.below (HN.out.drew rfl) hb); have n1_ := Aside0.mk (below_step (by repeat (first | (with_reducible first | exact HB.out | apply below_alloc | apply pw_below_drewN | apply below_drew1) | exact HB.out)) hb); clear HB HN hb; have HN := n0_; have HB := n1_; clear n0_ n1_) | (go_at_call 14; (with_reducible refine (Reset_no p _ (HN.out.drew rfl)).mono ?_); rintro e w1 ⟨rfl, hb⟩; have n0_ := Aside0.mk (No.below (HN.out.drew rfl) hb); have n1_ := Aside0.mk (below_step (by repeat (first | (with_reducible first | exact HB.out | apply below_alloc | apply pw_below_drewN | apply below_drew1) | exact HB.out)) hb); clear HB HN hb; have HN := n0_; have HB := n1_; clear n0_ n1_) | (go_at_call 7; (with_reducible refine (works_calls _).mono ?_); rintro e w1 ⟨rfl, hb⟩; have n1_ := Aside0.mk (below_step (by repeat (first | (with_reducible first | exact HB.out | apply below_alloc | apply pw_below_drewN | apply below_drew1) | exact HB.out)) hb); clear HB hb; have HB := n1_; clear n1_))
    go_ret
    exact ⟨rfl, by repeat (first | (with_reducible first | exact HB.out | apply below_alloc | apply pw_below_drewN | apply below_drew1) | exact HB.out)⟩
end Go.Proofs.YtkfaimhjdfpjhaaW.Chans
