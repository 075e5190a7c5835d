import Derived.Test.YtkfaimhjdfpjhaaProg
import Derived.Below
import Derived.Deep.Draws
import Derived.Deep.AppendLies
import Derived.Maps.AppendAt
import Derived.OwnWalk
import Derived.Laws.BytesArg
import Derived.Laws.MakeOwn
import Derived.Laws.OwnMore
import Derived.Deep.OwnRows
import Derived.Tactics
import Derived.Lib.ConvBytes
import Derived.Laws.Slices
import Derived.WalkKit
import Derived.KernelRfl
import Derived.RowKit3
import Derived.Deep.LoopGhost
import Derived.Deep.QuietTactic
import Derived.BigQuiet
import Derived.WideLaws
import Derived.Deep.DeepCutAuto
import Derived.Deep.CutBlock
import Derived.Deep.RegionHeld3
import Derived.Laws.Rows
import Derived.Lib.AppendStr
import Derived.ArgAppend
import Derived.Laws.IdiomCopy
import Derived.OrdersHeld
import Derived.Laws.BitsLemmas
import Derived.RowKit
import Derived.Test.YtkfaimhjdfpjhaaWWords
import Derived.Test.YtkfaimhjdfpjhaaWLast
import Derived.Test.YtkfaimhjdfpjhaaWTab
import Derived.Test.YtkfaimhjdfpjhaaWFour
import Derived.Test.YtkfaimhjdfpjhaaWQPut
import Derived.Test.YtkfaimhjdfpjhaaWApart
import Derived.Test.YtkfaimhjdfpjhaaWArr
import Derived.Test.YtkfaimhjdfpjhaaWZeros
import Derived.Test.YtkfaimhjdfpjhaaWFoot
import Derived.Test.YtkfaimhjdfpjhaaWKept
import Derived.Test.YtkfaimhjdfpjhaaWShare
import Derived.Test.YtkfaimhjdfpjhaaWN
import Derived.Test.YtkfaimhjdfpjhaaWFootNe
import Derived.Test.YtkfaimhjdfpjhaaWAt
import Derived.Test.YtkfaimhjdfpjhaaWEqStruct
import Derived.Test.YtkfaimhjdfpjhaaWRepsOne
import Derived.Test.YtkfaimhjdfpjhaaWInv
import Derived.Test.YtkfaimhjdfpjhaaWInvWords
import Derived.Test.YtkfaimhjdfpjhaaWGuard
import Derived.Test.YtkfaimhjdfpjhaaWNEv
import Derived.Test.YtkfaimhjdfpjhaaWMore
import Derived.Test.YtkfaimhjdfpjhaaMine2
import Derived.Test.YtkfaimhjdfpjhaaCh4
namespace Go.Proofs.YtkfaimhjdfpjhaaW.Chans
open Go Go.RowKit Go.Proofs Go.Proofs.YtkfaimhjdfpjhaaW.PrintWords Go.Proofs.YtkfaimhjdfpjhaaW.PrintLast Go.Proofs.YtkfaimhjdfpjhaaW.PrintMore
set_option linter.unusedVariables false
set_option linter.unusedSimpArgs false
attribute [local go_sem] Go.Proofs.YtkfaimhjdfpjhaaW.Mine.isSome_set

def fr (x : Int) : Array Value := #[.bool (decide (0 < x)), .int .i64 (if 0 < x then -1 else 0), .bool false, .int .i64 (if 1 < x then -1 else 0), .bool false, .int .i64 (if 2 < x then -1 else 0), .bool false, .int .i64 (if 3 < x then -1 else 0)]
def frV : Value := .agg #[.bool true, .int .i64 (-1), .bool false, .int .i64 (-1), .bool false, .int .i64 (-1), .bool false, .int .i64 (-1)]
set_option maxHeartbeats 8000000 in
theorem fresh_calls (w : World) : Calls Try.prog 19 #[] w fun e w' => e = .returned frV ∧ Below w.heap.size w w' := by
  have hu36 := Try.underlying36
  have hu35 := Try.underlying35
  go_enter Try.func19, Try.ntmps19
  go_upto_region 2 with (fail)
  obtain ⟨W2, hW2⟩ : ∃ W_ : World, W_ = (w.alloc (.cells #[.bool false, .int .i64 0, .bool false, .int .i64 0, .bool false, .int .i64 0, .bool false, .int .i64 0] 36)).alloc (.cells #[.bool false, .int .i64 0, .bool false, .int .i64 0, .bool false, .int .i64 0, .bool false, .int .i64 0] 36) := ⟨_, rfl⟩
  rw [← hW2]
  obtain ⟨g0, hg0⟩ : ∃ g_ : Nat, g_ = w.heap.size := ⟨_, rfl⟩
  obtain ⟨g1, hg1⟩ : ∃ g_ : Nat, g_ = w.heap.size + 1 := ⟨_, rfl⟩
  have B0 := Aside0.mk (show W2.heap[g0]? = some (.cells #[.bool false, .int .i64 0, .bool false, .int .i64 0, .bool false, .int .i64 0, .bool false, .int .i64 0] 36 (0, 0)) by rw [hW2, hg0]; exact blk_alloc (blk_new w _) _)
  have B1_ : W2.heap[g1]? = some (.cells #[.bool false, .int .i64 0, .bool false, .int .i64 0, .bool false, .int .i64 0, .bool false, .int .i64 0] 36 (0, 0)) := by rw [hW2, hg1]; have h := blk_new (w.alloc (.cells #[.bool false, .int .i64 0, .bool false, .int .i64 0, .bool false, .int .i64 0, .bool false, .int .i64 0] 36)) (.cells #[.bool false, .int .i64 0, .bool false, .int .i64 0, .bool false, .int .i64 0, .bool false, .int .i64 0] 36); simpa using h
  have B1 := Aside0.mk (show W2.heap[g1]? = some (.cells (fr 0) 36 (0, 0)) from B1_)
  clear B1_
  have HB := Aside0.mk (show Below w.heap.size w W2 by rw [hW2]; exact below_alloc (below_alloc (Below.refl _ _) _) _)
  have N01 := Aside0.mk (show g0 ≠ g1 by omega)
  have G1 := Aside0.mk (show w.heap.size ≤ g1 by omega)
  have G0 := Aside0.mk (show w.heap.size ≤ g0 by omega)
  rw [← hg1, ← hg0]
  clear hg0 hg1 hW2
  go_wp2
  go_loopg [3] 4 (fun kq v3 w' => ∃ x : Int, v3 = .int .i64 x ∧ Aside0 (0 ≤ x ∧ (kq : Int) + x = 4) ∧ Aside0 (w'.heap[g0]? = some (.cells #[.bool false, .int .i64 0, .bool false, .int .i64 0, .bool false, .int .i64 0, .bool false, .int .i64 0] 36 (0, 0))) ∧ Aside0 (w'.heap[g1]? = some (.cells (fr x) 36 (0, 0))) ∧ Aside0 (Below w.heap.size w w'))
  case atStart => exact ⟨0, rfl, ⟨by decide⟩, B0, B1, ⟨by repeat (first | (with_reducible first | exact HB.out | apply below_alloc | apply pw_below_drewN | apply below_drew1) | exact HB.out)⟩⟩
  case round =>
    clear HB B0 B1
    obtain ⟨x, rfl, HI, B0, B1, HB⟩ := hrel
    cases gk with
    | zero =>
      have e4 : x = 4 := by have := HI.out; omega
      subst e4
      have a0 : wr.cell? ⟨g1, 0, none⟩ = some (.bool true) := (blk_cell B1.out 0).trans rfl
      have a1 : wr.cell? ⟨g1, 1, none⟩ = some (.int .i64 (-1)) := (blk_cell B1.out 1).trans rfl
      have a2 : wr.cell? ⟨g1, 2, none⟩ = some (.bool false) := (blk_cell B1.out 2).trans rfl
      have a3 : wr.cell? ⟨g1, 3, none⟩ = some (.int .i64 (-1)) := (blk_cell B1.out 3).trans rfl
      have a4 : wr.cell? ⟨g1, 4, none⟩ = some (.bool false) := (blk_cell B1.out 4).trans rfl
      have a5 : wr.cell? ⟨g1, 5, none⟩ = some (.int .i64 (-1)) := (blk_cell B1.out 5).trans rfl
      have a6 : wr.cell? ⟨g1, 6, none⟩ = some (.bool false) := (blk_cell B1.out 6).trans rfl
      have a7 : wr.cell? ⟨g1, 7, none⟩ = some (.int .i64 (-1)) := (blk_cell B1.out 7).trans rfl
      have b0 : wr.cell? ⟨g0, 0, none⟩ = some (.bool false) := (blk_cell B0.out 0).trans rfl
      have z0 := blk_frozen B0.out 0
      have b1 : wr.cell? ⟨g0, 1, none⟩ = some (.int .i64 0) := (blk_cell B0.out 1).trans rfl
      have z1 := blk_frozen B0.out 1
      have b2 : wr.cell? ⟨g0, 2, none⟩ = some (.bool false) := (blk_cell B0.out 2).trans rfl
      have z2 := blk_frozen B0.out 2
      have b3 : wr.cell? ⟨g0, 3, none⟩ = some (.int .i64 0) := (blk_cell B0.out 3).trans rfl
      have z3 := blk_frozen B0.out 3
      have b4 : wr.cell? ⟨g0, 4, none⟩ = some (.bool false) := (blk_cell B0.out 4).trans rfl
      have z4 := blk_frozen B0.out 4
      have b5 : wr.cell? ⟨g0, 5, none⟩ = some (.int .i64 0) := (blk_cell B0.out 5).trans rfl
      have z5 := blk_frozen B0.out 5
      have b6 : wr.cell? ⟨g0, 6, none⟩ = some (.bool false) := (blk_cell B0.out 6).trans rfl
      have z6 := blk_frozen B0.out 6
      have b7 : wr.cell? ⟨g0, 7, none⟩ = some (.int .i64 0) := (blk_cell B0.out 7).trans rfl
      have z7 := blk_frozen B0.out 7
      go_wp2
      refine bodyPost_ret (v := frV) (by simp [results, Try.results19]; go_simp; rfl) rfl ⟨rfl, ?_⟩
      exact ((((((((HB.out.setCell G0.out _).setCell G0.out _).setCell G0.out _).setCell G0.out _).setCell G0.out _).setCell G0.out _).setCell G0.out _).setCell G0.out _)
    | succ k1 =>
      have hx_ : x = 0 ∨ x = 1 ∨ x = 2 ∨ x = 3 := by have := HI.out; omega
      rcases hx_ with rfl | rfl | rfl | rfl
      · have B1c : wr.heap[g1]? = some (.cells (fr 0) 36 (0, 0)) := B1.out
        have a0 : wr.cell? ⟨g1, 0, none⟩ = some (.bool false) := (blk_cell B1c 0).trans rfl
        have a1 : wr.cell? ⟨g1, 1, none⟩ = some (.int .i64 0) := (blk_cell B1c 1).trans rfl
        have f0 := blk_frozen B1c 0
        have f1 := blk_frozen B1c 1
        have B1n := Aside0.mk (blk_put (blk_put B1c 0 (.bool true) rfl) 1 (.int .i64 (-1)) (cs' := fr 1) rfl)
        have B0n := Aside0.mk (blk_far (blk_far B0.out (p := ⟨g1, 0, none⟩) N01.out (.bool true)) (p := ⟨g1, 1, none⟩) N01.out (.int .i64 (-1)))
        clear B0 B1 B1c
        go_wp2
        go_roundg k1
        case measure => omega
        case rel => exact ⟨1, rfl, ⟨by have := HI.out; omega⟩, B0n, B1n, ⟨((HB.out.setCell G1.out _).setCell G1.out _)⟩⟩
      · have B1c : wr.heap[g1]? = some (.cells (fr 1) 36 (0, 0)) := B1.out
        have a0 : wr.cell? ⟨g1, 2, none⟩ = some (.bool false) := (blk_cell B1c 2).trans rfl
        have a1 : wr.cell? ⟨g1, 3, none⟩ = some (.int .i64 0) := (blk_cell B1c 3).trans rfl
        have f0 := blk_frozen B1c 2
        have f1 := blk_frozen B1c 3
        have B1n := Aside0.mk (blk_put (blk_put B1c 2 (.bool false) rfl) 3 (.int .i64 (-1)) (cs' := fr 2) rfl)
        have B0n := Aside0.mk (blk_far (blk_far B0.out (p := ⟨g1, 2, none⟩) N01.out (.bool false)) (p := ⟨g1, 3, none⟩) N01.out (.int .i64 (-1)))
        clear B0 B1 B1c
        go_wp2
        go_roundg k1
        case measure => omega
        case rel => exact ⟨2, rfl, ⟨by have := HI.out; omega⟩, B0n, B1n, ⟨((HB.out.setCell G1.out _).setCell G1.out _)⟩⟩
      · have B1c : wr.heap[g1]? = some (.cells (fr 2) 36 (0, 0)) := B1.out
        have a0 : wr.cell? ⟨g1, 4, none⟩ = some (.bool false) := (blk_cell B1c 4).trans rfl
        have a1 : wr.cell? ⟨g1, 5, none⟩ = some (.int .i64 0) := (blk_cell B1c 5).trans rfl
        have f0 := blk_frozen B1c 4
        have f1 := blk_frozen B1c 5
        have B1n := Aside0.mk (blk_put (blk_put B1c 4 (.bool false) rfl) 5 (.int .i64 (-1)) (cs' := fr 3) rfl)
        have B0n := Aside0.mk (blk_far (blk_far B0.out (p := ⟨g1, 4, none⟩) N01.out (.bool false)) (p := ⟨g1, 5, none⟩) N01.out (.int .i64 (-1)))
        clear B0 B1 B1c
        go_wp2
        go_roundg k1
        case measure => omega
        case rel => exact ⟨3, rfl, ⟨by have := HI.out; omega⟩, B0n, B1n, ⟨((HB.out.setCell G1.out _).setCell G1.out _)⟩⟩
      · have B1c : wr.heap[g1]? = some (.cells (fr 3) 36 (0, 0)) := B1.out
        have a0 : wr.cell? ⟨g1, 6, none⟩ = some (.bool false) := (blk_cell B1c 6).trans rfl
        have a1 : wr.cell? ⟨g1, 7, none⟩ = some (.int .i64 0) := (blk_cell B1c 7).trans rfl
        have f0 := blk_frozen B1c 6
        have f1 := blk_frozen B1c 7
        have B1n := Aside0.mk (blk_put (blk_put B1c 6 (.bool false) rfl) 7 (.int .i64 (-1)) (cs' := fr 4) rfl)
        have B0n := Aside0.mk (blk_far (blk_far B0.out (p := ⟨g1, 6, none⟩) N01.out (.bool false)) (p := ⟨g1, 7, none⟩) N01.out (.int .i64 (-1)))
        clear B0 B1 B1c
        go_wp2
        go_roundg k1
        case measure => omega
        case rel => exact ⟨4, rfl, ⟨by have := HI.out; omega⟩, B0n, B1n, ⟨((HB.out.setCell G1.out _).setCell G1.out _)⟩⟩
end Go.Proofs.YtkfaimhjdfpjhaaW.Chans
