import Derived.Test.YtkfaimhjdfpjhaaProg
import Derived.Below
import Derived.Deep.Draws
import Derived.Deep.AppendLies
import Derived.Maps.AppendAt
import Derived.OwnWalk
import Derived.Laws.BytesArg
import Derived.Laws.MakeOwn
import Derived.Laws.OwnMore
import Derived.Deep.OwnRows
import Derived.Tactics
import Derived.Lib.ConvBytes
import Derived.Laws.Slices
import Derived.WalkKit
import Derived.KernelRfl
import Derived.RowKit3
import Derived.Deep.LoopGhost
import Derived.Deep.QuietTactic
import Derived.BigQuiet
import Derived.WideLaws
import Derived.Deep.DeepCutAuto
import Derived.Deep.CutBlock
import Derived.Deep.RegionHeld3
import Derived.Laws.Rows
import Derived.Lib.AppendStr
import Derived.ArgAppend
import Derived.Laws.IdiomCopy
import Derived.OrdersHeld
import Derived.Laws.BitsLemmas
import Derived.RowKit
import Derived.Test.YtkfaimhjdfpjhaaWWords
import Derived.Test.YtkfaimhjdfpjhaaWLast
import Derived.Test.YtkfaimhjdfpjhaaWTab
import Derived.Test.YtkfaimhjdfpjhaaWFour
import Derived.Test.YtkfaimhjdfpjhaaWQPut
import Derived.Test.YtkfaimhjdfpjhaaWApart
import Derived.Test.YtkfaimhjdfpjhaaWArr
import Derived.Test.YtkfaimhjdfpjhaaWZeros
import Derived.Test.YtkfaimhjdfpjhaaWFoot
import Derived.Test.YtkfaimhjdfpjhaaWKept
import Derived.Test.YtkfaimhjdfpjhaaWShare
import Derived.Test.YtkfaimhjdfpjhaaWN
import Derived.Test.YtkfaimhjdfpjhaaWFootNe
import Derived.Test.YtkfaimhjdfpjhaaWAt
import Derived.Test.YtkfaimhjdfpjhaaWEqStruct
import Derived.Test.YtkfaimhjdfpjhaaWRepsOne
import Derived.Test.YtkfaimhjdfpjhaaWInv
import Derived.Test.YtkfaimhjdfpjhaaWInvWords
import Derived.Test.YtkfaimhjdfpjhaaWGuard
import Derived.Test.YtkfaimhjdfpjhaaWNEv
import Derived.Test.YtkfaimhjdfpjhaaWMore
import Derived.Test.YtkfaimhjdfpjhaaMine2
import Derived.Test.YtkfaimhjdfpjhaaCh5
namespace Go.Proofs.YtkfaimhjdfpjhaaW.Chans
open Go Go.RowKit Go.Proofs Go.Proofs.YtkfaimhjdfpjhaaW.PrintWords Go.Proofs.YtkfaimhjdfpjhaaW.PrintLast Go.Proofs.YtkfaimhjdfpjhaaW.PrintMore
set_option linter.unusedVariables false
set_option linter.unusedSimpArgs false

def O0 : Nat → Bool := fun n => decide (n = 0)
def A0 : Nat → Int := fun _ => -1
def St.cells : Array Value := #[.bool true, .bool true, .int .i64 (-1), .bool false, .int .i64 (-1), .bool false, .int .i64 (-1), .bool false, .int .i64 (-1)]
theorem St.start {w : World} {g : Nat} (h : w.heap[g]? = some (.cells St.cells 38 (0, 0))) : St w g true O0 A0 := by
  refine ⟨_, h, rfl, rfl, fun n hn => ?_⟩
  match n, hn with
  | 0, _ => exact ⟨rfl, rfl⟩
  | 1, _ => exact ⟨rfl, rfl⟩
  | 2, _ => exact ⟨rfl, rfl⟩
  | 3, _ => exact ⟨rfl, rfl⟩
set_option maxHeartbeats 4000000 in
theorem New_calls (w : World) : Calls Try.prog 15 #[] w fun e w' => ∃ g, e = .returned (.pointer (some ⟨g, 0, none⟩)) ∧ w.heap.size ≤ g ∧ St w' g true O0 A0 ∧ Below w.heap.size w w' := by
  have HB := Aside0.mk (Below.refl w.heap.size w)
  have hu38 := Try.underlying38
  have hu36 := Try.underlying36
  have hu35 := Try.underlying35
  go_enter Try.func15, Try.ntmps15
  go_wp2_with (first | (go_at_call 19; (with_reducible refine (fresh_calls _).mono ?_); rintro e w1 ⟨rfl, hb⟩; have n1_ := Aside0.mk (below_step (by repeat (first | (with_reducible first | exact HB.out | apply below_alloc | apply pw_below_drewN | apply below_drew1) | exact HB.out)) hb); clear HB hb; have HB := n1_; clear n1_; unfold frV))
  go_ret
  exact ⟨_, rfl, below_size HB.out, St.start (blk_new _ _), below_alloc HB.out _⟩
def O1 : Nat → Bool := opO O0 (closed O0 4 0)
def A1 : Nat → Int := opA A0 (closed O0 4 0)
def A2 : Nat → Int := slA O1 A1 1 5
def O3 : Nat → Bool := clO O1 1
def A3 : Nat → Int := clA O1 A2 1
def A4 : Nat → Int := slA O3 A3 0 5
set_option maxHeartbeats 8000000 in
theorem works_calls (w : World) : Calls Try.prog 7 #[] w fun e w' => e = .returned (.bool true) ∧ Below w.heap.size w w' := by
  have HB := Aside0.mk (Below.refl w.heap.size w)
  go_enter Try.func7, Try.ntmps7
  go_upto_region 2 with (first | (go_at_call 15; (with_reducible refine (New_calls _).mono ?_); rintro e w1 ⟨g, rfl, hg, hs, hb⟩; have G := Aside0.mk (show w.heap.size ≤ g from hg); have HS := Aside0.mk hs; have n1_ := Aside0.mk (below_step (by repeat (first | (with_reducible first | exact HB.out | apply below_alloc | apply pw_below_drewN | apply below_drew1) | exact HB.out)) hb); clear HB hb hg hs; have HB := n1_; clear n1_))
  go_upto_region 3 with (first | (go_at_call 10; (with_reducible refine (Open_ok g O0 A0 _ (HS.out.block rfl) rfl).mono ?_); rintro e w1 ⟨he, hs, hb⟩; replace he : e = .returned (.tuple #[.int .i64 (1), .int .i64 (0)]) := he; subst he; have n0_ := Aside0.mk (show St w1 g true O1 A1 from hs); have n1_ := Aside0.mk (But.own (by repeat (first | (with_reducible first | exact HB.out | apply below_alloc | apply pw_below_drewN | apply below_drew1) | exact HB.out)) G.out (below_size (by repeat (first | (with_reducible first | exact HB.out | apply below_alloc | apply pw_below_drewN | apply below_drew1) | exact HB.out))) hb); clear HS HB hb; have HS := n0_; have HB := n1_; clear n0_ n1_))
  go_upto_region 4 with (first | (go_at_call 12; (with_reducible refine (Select_ok g O1 A1 1 5 _ (HS.out.block rfl)).mono ?_); rintro e w1 ⟨he, hs, hb⟩; replace he : e = .returned (.tuple #[.int .i64 (-1), .int .i64 (0)]) := he; subst he; have n0_ := Aside0.mk (show St w1 g true O1 A2 from hs); have n1_ := Aside0.mk (But.own (by repeat (first | (with_reducible first | exact HB.out | apply below_alloc | apply pw_below_drewN | apply below_drew1) | exact HB.out)) G.out (below_size (by repeat (first | (with_reducible first | exact HB.out | apply below_alloc | apply pw_below_drewN | apply below_drew1) | exact HB.out))) hb); clear HS HB hb; have HS := n0_; have HB := n1_; clear n0_ n1_))
  go_upto_region 5 with (first | (go_at_call 12; (with_reducible refine (Select_ok g O1 A2 0 5 _ (HS.out.block rfl)).mono ?_); rintro e w1 ⟨he, hs, hb⟩; replace he : e = .returned (.tuple #[.int .i64 (0), .int .i64 (7)]) := he; subst he; have n0_ := Aside0.mk (show St w1 g true O1 A2 from hs); have n1_ := Aside0.mk (But.own (by repeat (first | (with_reducible first | exact HB.out | apply below_alloc | apply pw_below_drewN | apply below_drew1) | exact HB.out)) G.out (below_size (by repeat (first | (with_reducible first | exact HB.out | apply below_alloc | apply pw_below_drewN | apply below_drew1) | exact HB.out))) hb); clear HS HB hb; have HS := n0_; have HB := n1_; clear n0_ n1_))
  go_upto_region 6 with (first | (go_at_call 11; (with_reducible refine (Close_ok g O1 A2 1 _ (HS.out.block rfl)).mono ?_); rintro e w1 ⟨he, hs, hb⟩; replace he : e = .returned (.tuple #[.int .i64 (5), .int .i64 (0)]) := he; subst he; have n0_ := Aside0.mk (show St w1 g true O3 A3 from hs); have n1_ := Aside0.mk (But.own (by repeat (first | (with_reducible first | exact HB.out | apply below_alloc | apply pw_below_drewN | apply below_drew1) | exact HB.out)) G.out (below_size (by repeat (first | (with_reducible first | exact HB.out | apply below_alloc | apply pw_below_drewN | apply below_drew1) | exact HB.out))) hb); clear HS HB hb; have HS := n0_; have HB := n1_; clear n0_ n1_))
  go_upto_region 7 with (first | (go_at_call 8; (with_reducible refine (Selected_ok g O3 A3 1 _ (HS.out.block rfl)).mono ?_); rintro e w1 ⟨he, hb⟩; replace he : e = .returned (.tuple #[.int .i64 (0), .int .i64 (6)]) := he; subst he; have n0_ := Aside0.mk (HS.out.block (hb.block _ HS.out.lt)); have n1_ := Aside0.mk (below_step (by repeat (first | (with_reducible first | exact HB.out | apply below_alloc | apply pw_below_drewN | apply below_drew1) | exact HB.out)) hb); clear HS HB hb; have HS := n0_; have HB := n1_; clear n0_ n1_))
  go_upto_region 8 with (first | (go_at_call 11; (with_reducible refine (Close_ok g O3 A3 0 _ (HS.out.block rfl)).mono ?_); rintro e w1 ⟨he, hs, hb⟩; replace he : e = .returned (.tuple #[.int .i64 (0), .int .i64 (2)]) := he; subst he; have n0_ := Aside0.mk (show St w1 g true O3 A3 from hs); have n1_ := Aside0.mk (But.own (by repeat (first | (with_reducible first | exact HB.out | apply below_alloc | apply pw_below_drewN | apply below_drew1) | exact HB.out)) G.out (below_size (by repeat (first | (with_reducible first | exact HB.out | apply below_alloc | apply pw_below_drewN | apply below_drew1) | exact HB.out))) hb); clear HS HB hb; have HS := n0_; have HB := n1_; clear n0_ n1_))
  go_upto_region 9 with (first | (go_at_call 12; (with_reducible refine (Select_ok g O3 A3 0 5 _ (HS.out.block rfl)).mono ?_); rintro e w1 ⟨he, hs, hb⟩; replace he : e = .returned (.tuple #[.int .i64 (-1), .int .i64 (0)]) := he; subst he; have n0_ := Aside0.mk (show St w1 g true O3 A4 from hs); have n1_ := Aside0.mk (But.own (by repeat (first | (with_reducible first | exact HB.out | apply below_alloc | apply pw_below_drewN | apply below_drew1) | exact HB.out)) G.out (below_size (by repeat (first | (with_reducible first | exact HB.out | apply below_alloc | apply pw_below_drewN | apply below_drew1) | exact HB.out))) hb); clear HS HB hb; have HS := n0_; have HB := n1_; clear n0_ n1_))
  go_upto_region 10 with (first | (go_at_call 9; (with_reducible refine (On_ok g O3 A4 5 _ (HS.out.block rfl)).mono ?_); rintro e w1 ⟨he, hb⟩; replace he : e = .returned (.tuple #[.int .i64 (0), .bool true]) := he; subst he; have n0_ := Aside0.mk (HS.out.block (hb.block _ HS.out.lt)); have n1_ := Aside0.mk (below_step (by repeat (first | (with_reducible first | exact HB.out | apply below_alloc | apply pw_below_drewN | apply below_drew1) | exact HB.out)) hb); clear HS HB hb; have HS := n0_; have HB := n1_; clear n0_ n1_))
  go_wp2
  go_ret
  exact ⟨rfl, by repeat (first | (with_reducible first | exact HB.out | apply below_alloc | apply pw_below_drewN | apply below_drew1) | exact HB.out)⟩
end Go.Proofs.YtkfaimhjdfpjhaaW.Chans
