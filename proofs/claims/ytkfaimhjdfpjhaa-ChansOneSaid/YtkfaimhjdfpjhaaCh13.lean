import Derived.Test.YtkfaimhjdfpjhaaProg
import Derived.Below
import Derived.Deep.Draws
import Derived.Deep.AppendLies
import Derived.Maps.AppendAt
import Derived.OwnWalk
import Derived.Laws.BytesArg
import Derived.Laws.MakeOwn
import Derived.Laws.OwnMore
import Derived.Deep.OwnRows
import Derived.Tactics
import Derived.Lib.ConvBytes
import Derived.Laws.Slices
import Derived.WalkKit
import Derived.KernelRfl
import Derived.RowKit3
import Derived.Deep.LoopGhost
import Derived.Deep.QuietTactic
import Derived.BigQuiet
import Derived.WideLaws
import Derived.Deep.DeepCutAuto
import Derived.Deep.CutBlock
import Derived.Deep.RegionHeld3
import Derived.Laws.Rows
import Derived.Lib.AppendStr
import Derived.ArgAppend
import Derived.Laws.IdiomCopy
import Derived.OrdersHeld
import Derived.Laws.BitsLemmas
import Derived.RowKit
import Derived.Test.YtkfaimhjdfpjhaaMine
import Derived.Test.YtkfaimhjdfpjhaaMine2
import Derived.Test.YtkfaimhjdfpjhaaCh1
import Derived.Test.YtkfaimhjdfpjhaaCh2
import Derived.Test.YtkfaimhjdfpjhaaCh3
import Derived.Test.YtkfaimhjdfpjhaaCh4
import Derived.Test.YtkfaimhjdfpjhaaCh5
import Derived.Test.YtkfaimhjdfpjhaaCh6
import Derived.Test.YtkfaimhjdfpjhaaCh7
import Derived.Test.YtkfaimhjdfpjhaaWWords
import Derived.Test.YtkfaimhjdfpjhaaWLast
import Derived.Test.YtkfaimhjdfpjhaaWTab
import Derived.Test.YtkfaimhjdfpjhaaWFour
import Derived.Test.YtkfaimhjdfpjhaaWQPut
import Derived.Test.YtkfaimhjdfpjhaaWApart
import Derived.Test.YtkfaimhjdfpjhaaWArr
import Derived.Test.YtkfaimhjdfpjhaaWZeros
import Derived.Test.YtkfaimhjdfpjhaaWFoot
import Derived.Test.YtkfaimhjdfpjhaaWKept
import Derived.Test.YtkfaimhjdfpjhaaWShare
import Derived.Test.YtkfaimhjdfpjhaaWN
import Derived.Test.YtkfaimhjdfpjhaaWFootNe
import Derived.Test.YtkfaimhjdfpjhaaWAt
import Derived.Test.YtkfaimhjdfpjhaaWEqStruct
import Derived.Test.YtkfaimhjdfpjhaaWRepsOne
import Derived.Test.YtkfaimhjdfpjhaaWInv
import Derived.Test.YtkfaimhjdfpjhaaWInvWords
import Derived.Test.YtkfaimhjdfpjhaaWGuard
import Derived.Test.YtkfaimhjdfpjhaaWNEv
import Derived.Test.YtkfaimhjdfpjhaaWMore
import Derived.Test.YtkfaimhjdfpjhaaMine2
import Derived.Test.YtkfaimhjdfpjhaaCh12
namespace Go.Proofs.YtkfaimhjdfpjhaaW.Chans
open Go Go.RowKit Go.Proofs Go.Proofs.YtkfaimhjdfpjhaaW.PrintWords Go.Proofs.YtkfaimhjdfpjhaaW.PrintLast Go.Proofs.YtkfaimhjdfpjhaaW.PrintMore
set_option linter.unusedVariables false
set_option linter.unusedSimpArgs false

set_option maxHeartbeats 16000000 in
set_option maxRecDepth 100000 in
theorem played_calls (A0 : Option Addr) (len c0 : Nat) (w : World) (hrd : ∀ x : Int, 0 ≤ x → x < (len : Int) → ∃ ad d n a, A0 = some ad ∧ w.cell? (ad.add (x.toNat * 3)) = some (.int .i64 d) ∧ w.cell? ⟨(ad.add (x.toNat * 3)).block, (ad.add (x.toNat * 3)).off + 1, none⟩ = some (.int .i64 n) ∧ w.cell? ⟨(ad.add (x.toNat * 3)).block, (ad.add (x.toNat * 3)).off + 2, none⟩ = some (.int .i64 a)) :
    Calls Try.prog 6 #[.slice A0 len c0] w fun e w' => ∃ g O A, e = .returned (.tuple #[.pointer (some ⟨g, 0, none⟩), .bool true]) ∧ w.heap.size ≤ g ∧ St w' g true O A ∧ Inv O A ∧ Below w.heap.size w w' := by
  have HB := Aside0.mk (Below.refl w.heap.size w)
  have HRD := Aside0.mk hrd
  clear hrd
  have hu49 := Try.underlying49
  have hu22 := Try.underlying22
  go_enter Try.func6, Try.ntmps6
  go_upto_region 2 with (first | (go_at_call 15; (with_reducible refine (New_calls _).mono ?_); rintro e w1 ⟨gc, rfl, hg, hs, hb⟩; have GC := Aside0.mk (show w.heap.size ≤ gc from hg); have HS := Aside0.mk hs; have n1_ := Aside0.mk (below_step (by repeat (first | (with_reducible first | exact HB.out | apply below_alloc | apply pw_below_drewN | apply below_drew1) | exact HB.out)) hb); clear HB hb hg hs; have HB := n1_; clear n1_) | (go_at_call 16; (with_reducible refine (rNew_calls _).mono ?_); rintro e w2 ⟨gr, rfl, hg, hb2, hb⟩; have GR := Aside0.mk (show w.heap.size ≤ gr from Nat.le_trans (below_size HB.out) hg); have n0_ := Aside0.mk (HS.out.block (w' := w2) (hb.block _ HS.out.lt)); have HR := Aside0.mk (Rt.start hb2); have n1_ := Aside0.mk (below_step (by repeat (first | (with_reducible first | exact HB.out | apply below_alloc | apply pw_below_drewN | apply below_drew1) | exact HB.out)) hb); clear HB HS hb hg hb2; have HS := n0_; have HB := n1_; clear n0_ n1_))
  have HG2 := Aside0.mk (show ∀ k, (k = gc ∨ k = gr) → w.heap.size ≤ k from fun k hk => hk.elim (fun h => h ▸ GC.out) (fun h => h ▸ GR.out))
  have HV := Aside0.mk Inv.start
  go_wp2
  go_loopg [6] 100 (fun kq v6 w' => ∃ (x : Int) (O : Nat → Bool) (A : Nat → Int), v6 = .int .i64 x ∧ Aside0 (0 ≤ x ∧ (kq : Int) + x = 100) ∧ Aside0 (St w' gc true O A) ∧ Aside0 (Rt w' gr O A) ∧ Aside0 (Inv O A) ∧ Aside0 (Below w.heap.size w w'))
  case atStart => exact ⟨0, O0, Chans.A0, rfl, ⟨by decide⟩, ⟨HS.out.block rfl⟩, ⟨HR.out.block rfl⟩, HV, ⟨by repeat (first | (with_reducible first | exact HB.out | apply below_alloc | apply pw_below_drewN | apply below_drew1) | exact HB.out)⟩⟩
  case round =>
    clear HB HS HR HV
    obtain ⟨x, O, A, rfl, HI, HS, HR, HV, HB⟩ := hrel
    by_cases c1 : x < (len : Int)
    · have c1b : decide (x < (len : Int)) = true := decide_eq_true c1
      cases gk with
      | zero =>
        have e4 : x = 100 := by have := HI.out; omega
        subst e4
        clear c1
        go_wp2
        go_ret2
        exact ⟨gc, O, A, rfl, GC.out, HS.out.block rfl, HV.out, by repeat (first | (with_reducible first | exact HB.out | apply below_alloc | apply pw_below_drewN | apply below_drew1) | exact HB.out)⟩
      | succ k1 =>
        have hb1 : decide (x < 100) = true := decide_eq_true (by have := HI.out; omega)
        have hw : wrap64 (x + 1) = x + 1 := by have := HI.out; unfold wrap64; omega
        have HW := Aside0.mk hw
        have q1 := HI.out.1
        obtain ⟨ad, d, n, a, e0_, hx0, hx1, hx2⟩ := HRD.out x q1 c1
        cases e0_
        replace hx0 := (HB.out.cell (World.block_lt_of_cell? w _ hx0)).trans hx0
        replace hx1 := (HB.out.cell (World.block_lt_of_cell? w _ hx1)).trans hx1
        replace hx2 := (HB.out.cell (World.block_lt_of_cell? w _ hx2)).trans hx2
        replace q1 := eq_true q1
        have q2 := eq_true c1
        clear hw c1
        go_upto_region 7 with (first | (go_at_call 17; (with_reducible refine (act_ok gc gr O A d n a _ ?s1 ?s2 HV.out).mono ?_); (case s1 => exact HS.out.block rfl); (case s2 => exact HR.out.block rfl); rintro e w1 ⟨rfl, O2, A2, hs, hr, hv, hb⟩; have n0_ := Aside0.mk hs; have n1_ := Aside0.mk hr; have n2_ := Aside0.mk hv; have n3_ := Aside0.mk (Buts.own (by repeat (first | (with_reducible first | exact HB.out | apply below_alloc | apply pw_below_drewN | apply below_drew1) | exact HB.out)) HG2.out (below_size (by repeat (first | (with_reducible first | exact HB.out | apply below_alloc | apply pw_below_drewN | apply below_drew1) | exact HB.out))) hb); clear HS HR HV HB hs hr hv hb; have HS := n0_; have HR := n1_; have HV := n2_; have HB := n3_; clear n0_ n1_ n2_ n3_))
        clear hx0 hx1 hx2
        go_wp2
        go_loopg [7] 4 (fun kq2 v7 w' => ∃ (x : Int) (O : Nat → Bool) (A : Nat → Int), v7 = .int .i64 x ∧ Aside0 (0 ≤ x ∧ (kq2 : Int) + x = 4) ∧ Aside0 (St w' gc true O A) ∧ Aside0 (Rt w' gr O A) ∧ Aside0 (Inv O A) ∧ Aside0 (Below w.heap.size w w'))
        case atStart => exact ⟨0, O2, A2, rfl, ⟨by decide⟩, ⟨HS.out.block rfl⟩, ⟨HR.out.block rfl⟩, HV, ⟨by repeat (first | (with_reducible first | exact HB.out | apply below_alloc | apply pw_below_drewN | apply below_drew1) | exact HB.out)⟩⟩
        case round =>
          clear HB HS HR HV
          clear O A
          obtain ⟨y, O, A, rfl, HJ, HS, HR, HV, HB⟩ := hrel
          cases gk with
          | zero =>
            have e4 : y = 4 := by have := HJ.out; omega
            subst e4
            go_wp2
            go_roundg k1
            case measure => omega
            case rel => exact ⟨x + 1, O, A, by rw [HW.out], ⟨by have := HI.out; omega⟩, ⟨HS.out.block rfl⟩, ⟨HR.out.block rfl⟩, HV, ⟨by repeat (first | (with_reducible first | exact HB.out | apply below_alloc | apply pw_below_drewN | apply below_drew1) | exact HB.out)⟩⟩
          | succ k2 =>
            have hb2 : decide (y < 4) = true := decide_eq_true (by have := HJ.out; omega)
            have hw2 : wrap64 (y + 1) = y + 1 := by have := HJ.out; unfold wrap64; omega
            have HW2 := Aside0.mk hw2
            clear hw2
            go_wp2_with (first | (go_at_call 17; (with_reducible refine (act_ok gc gr O A 3 y 0 _ ?s1 ?s2 HV.out).mono ?_); (case s1 => exact HS.out.block rfl); (case s2 => exact HR.out.block rfl); rintro e w1 ⟨rfl, O3, A3, hs, hr, hv, hb⟩; have n0_ := Aside0.mk hs; have n1_ := Aside0.mk hr; have n2_ := Aside0.mk hv; have n3_ := Aside0.mk (Buts.own (by repeat (first | (with_reducible first | exact HB.out | apply below_alloc | apply pw_below_drewN | apply below_drew1) | exact HB.out)) HG2.out (below_size (by repeat (first | (with_reducible first | exact HB.out | apply below_alloc | apply pw_below_drewN | apply below_drew1) | exact HB.out))) hb); clear HS HR HV HB hs hr hv hb; have HS := n0_; have HR := n1_; have HV := n2_; have HB := n3_; clear n0_ n1_ n2_ n3_))
            go_roundg k2
            case measure => omega
            case rel => exact ⟨y + 1, O3, A3, by rw [HW2.out], ⟨by have := HJ.out; omega⟩, ⟨HS.out.block rfl⟩, ⟨HR.out.block rfl⟩, HV, ⟨by repeat (first | (with_reducible first | exact HB.out | apply below_alloc | apply pw_below_drewN | apply below_drew1) | exact HB.out)⟩⟩
    · have c1b : decide (x < (len : Int)) = false := decide_eq_false c1
      clear c1
      go_wp2
      go_ret2
      exact ⟨gc, O, A, rfl, GC.out, HS.out.block rfl, HV.out, by repeat (first | (with_reducible first | exact HB.out | apply below_alloc | apply pw_below_drewN | apply below_drew1) | exact HB.out)⟩
end Go.Proofs.YtkfaimhjdfpjhaaW.Chans
