import Derived.Test.YtkfaimhjdfpjhaaProg
import Derived.Below
import Derived.Deep.Draws
import Derived.Deep.AppendLies
import Derived.Maps.AppendAt
import Derived.OwnWalk
import Derived.Laws.BytesArg
import Derived.Laws.MakeOwn
import Derived.Laws.OwnMore
import Derived.Deep.OwnRows
import Derived.Tactics
import Derived.Lib.ConvBytes
import Derived.Laws.Slices
import Derived.WalkKit
import Derived.KernelRfl
import Derived.RowKit3
import Derived.Deep.LoopGhost
import Derived.Deep.QuietTactic
import Derived.BigQuiet
import Derived.WideLaws
import Derived.Deep.DeepCutAuto
import Derived.Deep.CutBlock
import Derived.Deep.RegionHeld3
import Derived.Laws.Rows
import Derived.Lib.AppendStr
import Derived.ArgAppend
import Derived.Laws.IdiomCopy
import Derived.OrdersHeld
import Derived.Laws.BitsLemmas
import Derived.RowKit
import Derived.Test.YtkfaimhjdfpjhaaMine
import Derived.Test.YtkfaimhjdfpjhaaMine2
import Derived.Test.YtkfaimhjdfpjhaaCh1
import Derived.Test.YtkfaimhjdfpjhaaCh2
import Derived.Test.YtkfaimhjdfpjhaaCh3
import Derived.Test.YtkfaimhjdfpjhaaCh4
import Derived.Test.YtkfaimhjdfpjhaaCh5
import Derived.Test.YtkfaimhjdfpjhaaCh6
import Derived.Test.YtkfaimhjdfpjhaaCh7
import Derived.Test.YtkfaimhjdfpjhaaWWords
import Derived.Test.YtkfaimhjdfpjhaaWLast
import Derived.Test.YtkfaimhjdfpjhaaWTab
import Derived.Test.YtkfaimhjdfpjhaaWFour
import Derived.Test.YtkfaimhjdfpjhaaWQPut
import Derived.Test.YtkfaimhjdfpjhaaWApart
import Derived.Test.YtkfaimhjdfpjhaaWArr
import Derived.Test.YtkfaimhjdfpjhaaWZeros
import Derived.Test.YtkfaimhjdfpjhaaWFoot
import Derived.Test.YtkfaimhjdfpjhaaWKept
import Derived.Test.YtkfaimhjdfpjhaaWShare
import Derived.Test.YtkfaimhjdfpjhaaWN
import Derived.Test.YtkfaimhjdfpjhaaWFootNe
import Derived.Test.YtkfaimhjdfpjhaaWAt
import Derived.Test.YtkfaimhjdfpjhaaWEqStruct
import Derived.Test.YtkfaimhjdfpjhaaWRepsOne
import Derived.Test.YtkfaimhjdfpjhaaWInv
import Derived.Test.YtkfaimhjdfpjhaaWInvWords
import Derived.Test.YtkfaimhjdfpjhaaWGuard
import Derived.Test.YtkfaimhjdfpjhaaWNEv
import Derived.Test.YtkfaimhjdfpjhaaWMore
import Derived.Test.YtkfaimhjdfpjhaaMine2
import Derived.Test.YtkfaimhjdfpjhaaCh10
namespace Go.Proofs.YtkfaimhjdfpjhaaW.Chans
open Go Go.RowKit Go.Proofs Go.Proofs.YtkfaimhjdfpjhaaW.PrintWords Go.Proofs.YtkfaimhjdfpjhaaW.PrintLast Go.Proofs.YtkfaimhjdfpjhaaW.PrintMore
set_option linter.unusedVariables false
set_option linter.unusedSimpArgs false

set_option maxHeartbeats 8000000 in
theorem rDrop_ok (g : Nat) (O : Nat → Bool) (A : Nat → Int) (a : Int) (w : World) (h : Rt w g O A) (hv : Inv O A) : Calls Try.prog 26 #[.pointer (some ⟨g, 0, none⟩), .int .i64 a] w fun e w' => ∃ v, e = .returned v ∧ Kd.R (Kd.int .i64) 3 w' w.heap.size (fun _ => True) v (dpS O A a) ∧ Rt w' g O (dpA O A a) ∧ But g w w' := by
  have HB := Aside0.mk (But.refl g w)
  have HG := Aside0.mk h.lt
  have HS := Aside0.mk h
  have HE := Aside0.mk (@on_again O A a hv)
  have HT := Aside0.mk (@on_true O A a hv)
  have ho := onS_eq hv a
  clear h hv
  have hu54 := Try.underlying54
  have hu52 := Try.underlying52
  unfold dpS dpA
  by_cases c1 : a < 0
  · rw [if_pos c1] at ho
    rw [ho, if_neg (by decide), if_neg (by decide)]
    have c1b : decide (0 ≤ a) = false := decide_eq_false (by omega)
    clear c1 ho HE HT
    go_enter Try.func26, Try.ntmps26
    go_wp2
    go_loopg [5, 6] 4 (fun kq v5 v6 w' => ∃ x : Int, v5 = .slice none 0 0 ∧ v6 = .int .i64 x ∧ Aside0 (0 ≤ x ∧ (kq : Int) + x = 4) ∧ Aside0 (Rt w' g O A) ∧ Aside0 (But g w w'))
    case atStart => exact ⟨0, rfl, rfl, ⟨by decide⟩, ⟨HS.out.block rfl⟩, HB⟩
    case round =>
      clear HB HS
      obtain ⟨x, rfl, rfl, HI, HS, HB⟩ := hrel
      cases gk with
      | zero =>
        have e4 : x = 4 := by have := HI.out; omega
        subst e4
        go_wp2
        go_ret
        exact ⟨_, rfl, Kd.R_nil _ _ _ _ _, HS.out.block rfl, HB.out⟩
      | succ k1 =>
        have hb1 : decide (x < 4) = true := decide_eq_true (by have := HI.out; omega)
        have hw : wrap64 (x + 1) = x + 1 := by have := HI.out; unfold wrap64; omega
        have HW := Aside0.mk hw
        clear hw
        go_wp2
        go_roundg k1
        case measure => omega
        case rel => exact ⟨x + 1, rfl, by rw [HW.out], ⟨by have := HI.out; omega⟩, ⟨HS.out.block rfl⟩, HB⟩
  · rw [if_neg c1] at ho
    have c1b : decide (0 ≤ a) = true := decide_eq_true (by omega)
    have HA0 := Aside0.mk (show 0 ≤ a by omega)
    clear c1
    obtain ⟨⟨y, b⟩, hy⟩ : ∃ X_ : Int × Bool, X_ = onS O A a := ⟨_, rfl⟩
    rw [← hy] at ho HE HT ⊢
    have HR := Aside0.mk ho
    clear ho hy
    simp only at HE HT ⊢
    obtain ⟨D, hD⟩ : ∃ D_ : List Int, D_ = if b = true then [y] else [] := ⟨_, rfl⟩
    obtain ⟨A', hA'⟩ : ∃ A_ : Nat → Int, A_ = if b = true then upd A y.toNat (-1) else A := ⟨_, rfl⟩
    rw [← hD, ← hA']
    have HD := Aside0.mk hD
    have HA' := Aside0.mk hA'
    clear hD hA'
    go_enter Try.func26, Try.ntmps26
    go_wp2
    go_loopg [5, 6] 4 (fun kq v5 v6 w' => ∃ x : Int, v6 = .int .i64 x ∧ Aside0 (0 ≤ x ∧ (kq : Int) + x = 4) ∧ Aside0 (But g w w') ∧ ((v5 = .slice none 0 0 ∧ Aside0 (scan O A a kq x.toNat = (y, b)) ∧ Aside0 (Rt w' g O A)) ∨ (b = true ∧ Aside0 (Kd.R (Kd.int .i64) 3 w' w.heap.size (fun _ => True) v5 [y]) ∧ Aside0 (Rt w' g O (upd A y.toNat (-1))))))
    case atStart => exact ⟨0, rfl, ⟨by decide⟩, HB, .inl ⟨rfl, ⟨HR.out.symm⟩, ⟨HS.out.block rfl⟩⟩⟩
    case round =>
      clear HB HS
      obtain ⟨x, rfl, HI, HB, hmode⟩ := hrel
      cases gk with
      | zero =>
        have e4 : x = 4 := by have := HI.out; omega
        subst e4
        rcases hmode with ⟨rfl, HA, HS⟩ | ⟨rfl, HRW, HS⟩
        · have hA := HA.out
          unfold scan at hA
          simp only [Prod.mk.injEq] at hA
          obtain ⟨rfl, rfl⟩ := hA
          have hD := HD.out
          have hA' := HA'.out
          rw [if_neg (by decide)] at hD hA'
          go_wp2
          go_ret
          exact ⟨_, rfl, by first | exact Kd.R_nil _ _ _ _ _ | (rw [hD]; exact Kd.R_nil _ _ _ _ _), by first | exact HS.out.block rfl | (rw [hA']; exact HS.out.block rfl), HB.out⟩
        · have hD := HD.out
          have hA' := HA'.out
          rw [if_pos rfl] at hD hA'
          go_wp2
          go_ret
          exact ⟨_, rfl, by first | exact HRW.out | (rw [hD]; exact HRW.out), by first | exact HS.out.block rfl | (rw [hA']; exact HS.out.block rfl), HB.out⟩
      | succ k1 =>
        have hi4 : x.toNat < 4 := by have := HI.out; omega
        have Q4 := Aside0.mk hi4
        have hb1 : decide (x < 4) = true := decide_eq_true (by have := HI.out; omega)
        have q1 := eq_true (show (0 : Int) ≤ x by have := HI.out; omega)
        have q2 := eq_true (show x < 4 by have := HI.out; omega)
        have hw : wrap64 (x + 1) = x + 1 := by have := HI.out; unfold wrap64; omega
        have HW := Aside0.mk hw
        clear hw
        rcases hmode with ⟨rfl, HA, HS⟩ | ⟨rfl, HRW, HS⟩
        · have hl := HS.out.at_ hi4
          have hf := HS.out.frozen x.toNat
          have hA := HA.out
          unfold scan at hA
          clear HA
          have hx : ((x.toNat : Nat) : Int) = x := Int.toNat_of_nonneg (of_eq_true q1)
          rw [hx] at hA
          clear hx
          have hs := scanL (O := O) (A := A) HA0.out x.toNat
          obtain ⟨l, hy⟩ : ∃ y_ : Int, y_ = L O A x.toNat := ⟨_, rfl⟩
          rw [← hy] at hl hs
          clear hy hi4
          by_cases c3 : l = a
          · have hO := (hs.2 c3).1
            rw [if_pos (hs.2 c3)] at hA
            simp only [Prod.mk.injEq] at hA
            obtain ⟨rfl, rfl⟩ := hA
            have c3b : (l == a) = true := beq_iff_eq.mpr c3
            have HO := Aside0.mk hO
            clear c3 hs hO
            go_upto_region 7 with (fail)
            obtain ⟨W5, hW5⟩ : ∃ W_ : World, W_ = wr.setCell ⟨g, x.toNat, none⟩ (.int .i64 (-1)) := ⟨_, rfl⟩
            rw [← hW5]
            have n0_ := Aside0.mk (show Rt W5 g O (upd A x.toNat (-1)) by rw [hW5]; exact HS.out.set Q4.out (-1) (L_sel O A _ _ HO.out))
            have n1_ := Aside0.mk (show But g w W5 by rw [hW5]; exact HB.out.set _ _)
            clear HS HB hW5 hl hf
            have HS := n0_
            have HB := n1_
            clear n0_ n1_
            have HSZ := Aside0.mk HB.out.size
            go_wp2_with (first | ((with_reducible refine gate_builtin (b := .append) (xs := #[.tmp 28, .tmp 30]) rfl ?_); at_builtin; refine Kd.R_append (Kd.int .i64) (w0 := W5) w.heap.size rfl (.tmp 28) (.tmp 30) 28 3 (.int .i64 0) 8 rfl Try.underlying28 info3 rfl (by decide) (by omega) (.slice none 0 0) [] x [.int .i64 x] (fun _ => True) (fun _ => False) rfl rfl ?aP (fun _ hk => hk.elim) ?aF ?aO ?aB ?aS ?aL ?_; (case aP => exact rfl); (case aB => exact Below.refl _ _); (case aF => exact (fun _ _ => trivial)); (case aO => exact Kd.R_nil _ _ _ _ _); (case aS => exact HSZ.out); (case aL => simp); intro v6_ w6_ ho hbb hg hat; have HR6 := Aside0.mk ho; have n0_ := Aside0.mk (HS.out.block (hbb.block _ HG.out)); have n1_ := Aside0.mk (HB.out.base hbb); clear HS HB; have HS := n0_; have HB := n1_; clear ho hg hbb hat n0_ n1_))
            go_roundg k1
            case measure => omega
            case rel => exact ⟨x + 1, by rw [HW.out], ⟨by have := HI.out; omega⟩, HB, .inr ⟨by first | rfl | trivial, ⟨by (with_reducible repeat (first | apply Kd.R_alloc | apply Kd.R_drewN | apply Kd.R_drew)); exact HR6.out⟩, ⟨HS.out.block rfl⟩⟩⟩
          · rw [if_neg (fun h => c3 (hs.1 h))] at hA
            have c3b : (l == a) = false := beq_eq_false_iff_ne.mpr c3
            clear c3 hs
            have HA := Aside0.mk hA
            clear hA
            go_wp2
            go_roundg k1
            case measure => omega
            case rel => exact ⟨x + 1, by rw [HW.out], ⟨by have := HI.out; omega⟩, HB, .inl ⟨rfl, ⟨by rw [show (x + 1).toNat = x.toNat + 1 from by have := HI.out; omega]; exact HA.out⟩, ⟨HS.out.block rfl⟩⟩⟩
        · have hl := HS.out.at_ hi4
          have hs := scanL (O := O) (A := upd A y.toNat (-1)) HA0.out x.toNat
          have hno := HE.out rfl x.toNat hi4
          obtain ⟨l, hy⟩ : ∃ y_ : Int, y_ = L O (upd A y.toNat (-1)) x.toNat := ⟨_, rfl⟩
          rw [← hy] at hl hs
          clear hy hi4
          have c3b : (l == a) = false := beq_eq_false_iff_ne.mpr (fun h => hno (hs.2 h))
          clear hs hno
          go_wp2
          go_roundg k1
          case measure => omega
          case rel => exact ⟨x + 1, by rw [HW.out], ⟨by have := HI.out; omega⟩, HB, .inr ⟨by first | rfl | trivial, HRW, ⟨HS.out.block rfl⟩⟩⟩
theorem St.reset {w : World} {g : Nat} {O : Nat → Bool} {A : Nat → Int} (h : St w g true O A) : St ((((((((w.setCell ⟨g, 1, none⟩ (.bool true)).setCell ⟨g, 2, none⟩ (.int .i64 (-1))).setCell ⟨g, 3, none⟩ (.bool false)).setCell ⟨g, 4, none⟩ (.int .i64 (-1))).setCell ⟨g, 5, none⟩ (.bool false)).setCell ⟨g, 6, none⟩ (.int .i64 (-1))).setCell ⟨g, 7, none⟩ (.bool false)).setCell ⟨g, 8, none⟩ (.int .i64 (-1))) g true O0 A0 := by
  have h1 := (((((((h.setOpen (n := 0) (by decide) true).setApp (n := 0) (by decide) (-1)).setOpen (n := 1) (by decide) false).setApp (n := 1) (by decide) (-1)).setOpen (n := 2) (by decide) false).setApp (n := 2) (by decide) (-1)).setOpen (n := 3) (by decide) false).setApp (n := 3) (by decide) (-1)
  obtain ⟨c, hc, hs, h0, h2⟩ := h1
  refine ⟨c, hc, hs, h0, fun n hn => ?_⟩
  have := h2 n hn
  match n, hn with
  | 0, _ => exact this
  | 1, _ => exact this
  | 2, _ => exact this
  | 3, _ => exact this
set_option maxHeartbeats 8000000 in
theorem Reset_ok (g : Nat) (O : Nat → Bool) (A : Nat → Int) (w : World) (h : St w g true O A) (h00 : O 0 = true) : Calls Try.prog 14 #[.pointer (some ⟨g, 0, none⟩)] w fun e w' => e = .returned (.int .i64 0) ∧ St w' g true O0 A0 ∧ But g w w' := by
  have HB := Aside0.mk (Below.refl w.heap.size w)
  have HS := Aside0.mk h
  clear h
  have hu38 := Try.underlying38
  have hu36 := Try.underlying36
  have hu35 := Try.underlying35
  have HK := Aside0.mk (show askS O 0 0 = 0 by unfold askS; rw [if_neg (by decide), if_neg (by decide)]; exact if_pos h00)
  clear h00
  go_enter Try.func14, Try.ntmps14
  go_wp2_with (first | (go_at_call 18; (with_reducible refine (ask_ok g O A 0 0 _ (HS.out.block rfl) (by decide)).mono ?_); rintro e w1 ⟨rfl, hb⟩; rw [HK.out]; have n0_ := Aside0.mk (HS.out.block (hb.block _ HS.out.lt)); have n1_ := Aside0.mk (below_step (by repeat (first | (with_reducible first | exact HB.out | apply below_alloc | apply pw_below_drewN | apply below_drew1) | exact HB.out)) hb); clear HB HS hb; have HS := n0_; have HB := n1_; clear n0_ n1_) | (go_at_call 19; (with_reducible refine (fresh_calls _).mono ?_); rintro e w2 ⟨rfl, hb⟩; have n0_ := Aside0.mk (HS.out.block (hb.block _ HS.out.lt)); have n1_ := Aside0.mk (below_step (by repeat (first | (with_reducible first | exact HB.out | apply below_alloc | apply pw_below_drewN | apply below_drew1) | exact HB.out)) hb); clear HB HS hb; have HS := n0_; have HB := n1_; clear n0_ n1_; unfold frV; have y0 := HS.out.open_ (n := 0) (by decide); have y1 := HS.out.app (n := 0) (by decide); have y2 := HS.out.open_ (n := 1) (by decide); have y3 := HS.out.app (n := 1) (by decide); have y4 := HS.out.open_ (n := 2) (by decide); have y5 := HS.out.app (n := 2) (by decide); have y6 := HS.out.open_ (n := 3) (by decide); have y7 := HS.out.app (n := 3) (by decide); simp only [Nat.reduceMul, Nat.reduceAdd] at y0 y1 y2 y3 y4 y5 y6 y7; have z1 := HS.out.frozen 1; have z2 := HS.out.frozen 2; have z3 := HS.out.frozen 3; have z4 := HS.out.frozen 4; have z5 := HS.out.frozen 5; have z6 := HS.out.frozen 6; have z7 := HS.out.frozen 7; have z8 := HS.out.frozen 8))
  go_ret
  exact ⟨rfl, HS.out.reset.block rfl, (((((((((But.of_below HB.out).set _ _).set _ _).set _ _).set _ _).set _ _).set _ _).set _ _).set _ _)⟩
end Go.Proofs.YtkfaimhjdfpjhaaW.Chans
