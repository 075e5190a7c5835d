import Derived.Test.YtkfaimhjdfpjhaaProg
import Derived.Below
import Derived.Deep.Draws
import Derived.Deep.AppendLies
import Derived.Maps.AppendAt
import Derived.OwnWalk
import Derived.Laws.BytesArg
import Derived.Laws.MakeOwn
import Derived.Laws.OwnMore
import Derived.Deep.OwnRows
import Derived.Tactics
import Derived.Lib.ConvBytes
import Derived.Laws.Slices
import Derived.WalkKit
import Derived.KernelRfl
import Derived.RowKit3
import Derived.Deep.LoopGhost
import Derived.Deep.QuietTactic
import Derived.BigQuiet
import Derived.WideLaws
import Derived.Deep.DeepCutAuto
import Derived.Deep.CutBlock
import Derived.Deep.RegionHeld3
import Derived.Laws.Rows
import Derived.Lib.AppendStr
import Derived.ArgAppend
import Derived.Laws.IdiomCopy
import Derived.OrdersHeld
import Derived.Laws.BitsLemmas
import Derived.RowKit
import Derived.Test.YtkfaimhjdfpjhaaMine
import Derived.Test.YtkfaimhjdfpjhaaMine2
import Derived.Test.YtkfaimhjdfpjhaaCh1
import Derived.Test.YtkfaimhjdfpjhaaCh2
import Derived.Test.YtkfaimhjdfpjhaaCh3
import Derived.Test.YtkfaimhjdfpjhaaCh4
import Derived.Test.YtkfaimhjdfpjhaaCh5
import Derived.Test.YtkfaimhjdfpjhaaCh6
import Derived.Test.YtkfaimhjdfpjhaaCh7
import Derived.Test.YtkfaimhjdfpjhaaWWords
import Derived.Test.YtkfaimhjdfpjhaaWLast
import Derived.Test.YtkfaimhjdfpjhaaWTab
import Derived.Test.YtkfaimhjdfpjhaaWFour
import Derived.Test.YtkfaimhjdfpjhaaWQPut
import Derived.Test.YtkfaimhjdfpjhaaWApart
import Derived.Test.YtkfaimhjdfpjhaaWArr
import Derived.Test.YtkfaimhjdfpjhaaWZeros
import Derived.Test.YtkfaimhjdfpjhaaWFoot
import Derived.Test.YtkfaimhjdfpjhaaWKept
import Derived.Test.YtkfaimhjdfpjhaaWShare
import Derived.Test.YtkfaimhjdfpjhaaWN
import Derived.Test.YtkfaimhjdfpjhaaWFootNe
import Derived.Test.YtkfaimhjdfpjhaaWAt
import Derived.Test.YtkfaimhjdfpjhaaWEqStruct
import Derived.Test.YtkfaimhjdfpjhaaWRepsOne
import Derived.Test.YtkfaimhjdfpjhaaWInv
import Derived.Test.YtkfaimhjdfpjhaaWInvWords
import Derived.Test.YtkfaimhjdfpjhaaWGuard
import Derived.Test.YtkfaimhjdfpjhaaWNEv
import Derived.Test.YtkfaimhjdfpjhaaWMore
import Derived.Test.YtkfaimhjdfpjhaaMine2
import Derived.Test.YtkfaimhjdfpjhaaCh9
namespace Go.Proofs.YtkfaimhjdfpjhaaW.Chans
open Go Go.RowKit Go.Proofs Go.Proofs.YtkfaimhjdfpjhaaW.PrintWords Go.Proofs.YtkfaimhjdfpjhaaW.PrintLast Go.Proofs.YtkfaimhjdfpjhaaW.PrintMore
set_option linter.unusedVariables false
set_option linter.unusedSimpArgs false

/-! ### garderoberef00_Ints: function 25 -/
def garderoberef00_Ints.l0 : Nat → List Int → List Int → Int → Option (Bool)
  | 0, _, _, _ => none
  | k + 1, x0, x1, x5 => if x5 < (x0.length : Int) then (if 0 ≤ x5 then (if x5 < (x1.length : Int) then (if (rd x0 x5) = (rd x1 x5) then (garderoberef00_Ints.l0 k x0 x1 (wrap64 (x5 + 1))) else (some false)) else (none)) else (none)) else (some true)
def garderoberef00_Ints.f (k : Nat) (l0 : List Int) (l1 : List Int) : Option (Bool) := if (l0.length : Int) = (l1.length : Int) then (garderoberef00_Ints.l0 k l0 l1 0) else (some false)
theorem garderoberef00_Ints.mono_l : ∀ k, (∀ y0 y1 y2, LeO (garderoberef00_Ints.l0 k y0 y1 y2) (garderoberef00_Ints.l0 (k + 1) y0 y1 y2))
  | 0 => fun _ _ _ r h => by simp [garderoberef00_Ints.l0] at h
  | k + 1 => by
    have ih0 := garderoberef00_Ints.mono_l k
    · intro y0 y1 y2
      unfold garderoberef00_Ints.l0
      repeat' first
      | (with_reducible exact ih0 _ _ _)
      | (with_reducible exact LeO.refl _)
      | (with_reducible exact LeO.none _)
      | (with_reducible refine LeO.ite ?_ ?_)
      | (with_reducible refine LeO.bind ?_ (fun _ => ?_))
      | exact ih0 _ _ _
      | exact LeO.none _
      | refine LeO.ite ?_ ?_
      | refine LeO.bind ?_ (fun _ => ?_)
theorem garderoberef00_Ints.mono : ∀ a0 a1 k, LeO (garderoberef00_Ints.f k a0 a1) (garderoberef00_Ints.f (k + 1) a0 a1) := by
  intro a0 a1 k
  have ih0 := garderoberef00_Ints.mono_l k
  unfold garderoberef00_Ints.f
  repeat' first
      | (with_reducible exact ih0 _ _ _)
      | (with_reducible exact LeO.refl _)
      | (with_reducible exact LeO.none _)
      | (with_reducible refine LeO.ite ?_ ?_)
      | (with_reducible refine LeO.bind ?_ (fun _ => ?_))
      | exact ih0 _ _ _
      | exact LeO.none _
      | refine LeO.ite ?_ ?_
      | refine LeO.bind ?_ (fun _ => ?_)
set_option maxHeartbeats 8000000 in
set_option maxRecDepth 100000 in
theorem garderoberef00_Ints.calls (k : Nat) (A0 : Option Addr) (c0 : Nat) (l0 : List Int) (A1 : Option Addr) (c1 : Nat) (l1 : List Int) (r : Bool) (w : World) (hr0 : Kd.C (Kd.int .i64) w A0 l0.length l0) (hc0 : l0.length ≤ c0) (hr1 : Kd.C (Kd.int .i64) w A1 l1.length l1) (hc1 : l1.length ≤ c1) (h : garderoberef00_Ints.f k l0 l1 = some r) :
    Calls Try.prog 25 #[.slice A0 l0.length c0, .slice A1 l1.length c1] w fun e w' => e = .returned (.bool r) ∧ Drawn0 w w' := by
  have HR0 := Aside0.mk hr0
  have HC0 := Aside0.mk hc0
  clear hr0 hc0
  have HR1 := Aside0.mk hr1
  have HC1 := Aside0.mk hc1
  clear hr1 hc1
  have H : (if (l0.length : Int) = (l1.length : Int) then (garderoberef00_Ints.l0 k l0 l1 0) else (some false)) = some r := h
  clear h
  by_cases c3 : (l0.length : Int) = (l1.length : Int)
  · rw [if_pos c3] at H
    have c3b0 : ((l0.length : Int) == (l1.length : Int)) = true := beq_iff_eq.mpr c3
    have c3b1 : ((l0.length : Int) != (l1.length : Int)) = false := bne_eq_false_iff_eq.mpr c3
    have c3b2 : (l0.length == l1.length) = true := by first | simpa using c3 | (simp at c3 ⊢; omega)
    clear c3
    have H' := Aside0.mk H
    clear H
    go_enter Try.func25, Try.ntmps25
    go_wp2
    repeat (go_quiet (fail); try go_wp2)
    go_loopg [5] k (fun kq v5 w' => ∃ (x5_1 : Int), v5 = .int .i64 x5_1 ∧ Aside0 (garderoberef00_Ints.l0 kq l0 l1 x5_1 = some r) ∧ Aside0 (kq ≤ k) ∧ Drawn0 w w')
    case atStart => exact ⟨(0), (by first | rfl | (simp; done) | (simp [*]; done)), H', ⟨Nat.le_refl _⟩, by repeat (first | exact Drawn0.refl _ | apply Drawn0.step)⟩
    case round =>
      clear H'
      try clear c1
      try clear c2
      try clear p2
      try clear c3
      try clear c3b0
      try clear c3b1
      try clear c3b2
      obtain ⟨x5_1, rfl, HA, HK1, ⟨m1, rfl⟩⟩ := hrel
      cases gk with
      | zero => exact absurd HA.out (by simp [garderoberef00_Ints.l0])
      | succ k1 =>
        have H := HA.out
        clear HA
        simp only [garderoberef00_Ints.l0] at H
        by_cases c4 : x5_1 < (l0.length : Int)
        · rw [if_pos c4] at H
          have c4b0 : decide (x5_1 < (l0.length : Int)) = true := decide_eq_true c4
          clear c4
          by_cases c5 : 0 ≤ x5_1
          · rw [if_pos c5] at H
            have c5b0 : decide (0 ≤ x5_1) = true := decide_eq_true c5
            clear c5
            by_cases c6 : x5_1 < (l1.length : Int)
            · rw [if_pos c6] at H
              have c6b0 : decide (x5_1 < (l1.length : Int)) = true := decide_eq_true c6
              clear c6
              by_cases c7 : (rd l0 x5_1) = (rd l1 x5_1)
              · rw [if_pos c7] at H
                have c7b0 : ((rd l0 x5_1) == (rd l1 x5_1)) = true := beq_iff_eq.mpr c7
                have c7b1 : ((rd l0 x5_1) != (rd l1 x5_1)) = false := bne_eq_false_iff_eq.mpr c7
                clear c7
                have H' := Aside0.mk H
                clear H
                have p101 : 0 ≤ (x5_1 : Int) := of_decide_eq_true (by first | (with_reducible assumption) | assumption)
                have q101 : x5_1 < (l0.length : Int) := of_decide_eq_true (by first | (with_reducible assumption) | assumption)
                obtain ⟨ad101, e101, hx101_0⟩ := Kd.at_int HR0.out x5_1 p101 q101
                cases e101
                replace p101 := eq_true p101
                replace q101 := eq_true q101
                have p102 : 0 ≤ (x5_1 : Int) := of_decide_eq_true (by first | (with_reducible assumption) | assumption)
                have q102 : x5_1 < (l1.length : Int) := of_decide_eq_true (by first | (with_reducible assumption) | assumption)
                obtain ⟨ad102, e102, hx102_0⟩ := Kd.at_int HR1.out x5_1 p102 q102
                cases e102
                replace p102 := eq_true p102
                replace q102 := eq_true q102
                go_wp2
                repeat (go_quiet (fail); try go_wp2)
                go_roundg k1
                case measure => have := HK1.out; omega
                case rel => exact ⟨(wrap64 (x5_1 + 1)), (by first | rfl | (simp; done) | (simp [*]; done)), H', ⟨by have := HK1.out; omega⟩, by repeat (first | exact Drawn0.refl _ | apply Drawn0.step)⟩
              · rw [if_neg c7] at H
                have c7b0 : ((rd l0 x5_1) == (rd l1 x5_1)) = false := beq_eq_false_iff_ne.mpr c7
                have c7b1 : ((rd l0 x5_1) != (rd l1 x5_1)) = true := bne_iff_ne.mpr c7
                obtain rfl := Option.some.inj H
                have p101 : 0 ≤ (x5_1 : Int) := of_decide_eq_true (by first | (with_reducible assumption) | assumption)
                have q101 : x5_1 < (l0.length : Int) := of_decide_eq_true (by first | (with_reducible assumption) | assumption)
                obtain ⟨ad101, e101, hx101_0⟩ := Kd.at_int HR0.out x5_1 p101 q101
                cases e101
                replace p101 := eq_true p101
                replace q101 := eq_true q101
                have p102 : 0 ≤ (x5_1 : Int) := of_decide_eq_true (by first | (with_reducible assumption) | assumption)
                have q102 : x5_1 < (l1.length : Int) := of_decide_eq_true (by first | (with_reducible assumption) | assumption)
                obtain ⟨ad102, e102, hx102_0⟩ := Kd.at_int HR1.out x5_1 p102 q102
                cases e102
                replace p102 := eq_true p102
                replace q102 := eq_true q102
                go_wp2
                repeat (go_quiet (fail); try go_wp2)
                go_ret
                exact ⟨by first | rfl | (simp; done) | (simp [*]; done), by repeat (first | exact Drawn0.refl _ | apply Drawn0.step)⟩
            · rw [if_neg c6] at H
              exact absurd H (by simp)
          · rw [if_neg c5] at H
            exact absurd H (by simp)
        · rw [if_neg c4] at H
          have c4b0 : decide (x5_1 < (l0.length : Int)) = false := decide_eq_false c4
          clear c4
          obtain rfl := Option.some.inj H
          go_wp2
          repeat (go_quiet (fail); try go_wp2)
          go_ret
          exact ⟨by first | rfl | (simp; done) | (simp [*]; done), by repeat (first | exact Drawn0.refl _ | apply Drawn0.step)⟩
  · rw [if_neg c3] at H
    have c3b0 : ((l0.length : Int) == (l1.length : Int)) = false := beq_eq_false_iff_ne.mpr c3
    have c3b1 : ((l0.length : Int) != (l1.length : Int)) = true := bne_iff_ne.mpr c3
    have c3b2 : (l0.length == l1.length) = false := by first | simpa using c3 | (simp at c3 ⊢; omega)
    obtain rfl := Option.some.inj H
    go_enter Try.func25, Try.ntmps25
    go_wp2
    repeat (go_quiet (fail); try go_wp2)
    go_ret
    exact ⟨by first | rfl | (simp; done) | (simp [*]; done), by repeat (first | exact Drawn0.refl _ | apply Drawn0.step)⟩

theorem info3 : (Try.prog.info? 3).map (fun i => (i.zero, i.size, i.bytes)) = some (some (.int .i64 0), 1, 8) := by kernel_rfl
theorem But.base {g : Nat} {w a b : World} (h : But g w a) (k : Below w.heap.size a b) : But g w b :=
  ⟨k.os.trans h.os, k.tape.trans h.tape, k.output.trans h.output, Nat.le_trans h.size k.size, fun i hi hn => (k.block i hi).trans (h.block i hi hn)⟩
def dpS (O : Nat → Bool) (A : Nat → Int) (a : Int) : List Int := if (onS O A a).2 = true then [(onS O A a).1] else []
def dpA (O : Nat → Bool) (A : Nat → Int) (a : Int) : Nat → Int := if (onS O A a).2 = true then upd A (onS O A a).1.toNat (-1) else A
theorem scan_true {O : Nat → Bool} {A : Nat → Int} {a : Int} : ∀ (d i : Nat), (scan O A a d i).2 = true → ∃ k, i ≤ k ∧ k < i + d ∧ (scan O A a d i).1 = (k : Int) ∧ O k = true ∧ A k = a
  | 0, i, h => by cases h
  | d + 1, i, h => by
    unfold scan at h ⊢
    by_cases c : O i = true ∧ A i = a
    · rw [if_pos c] at h ⊢
      exact ⟨i, by omega, by omega, rfl, c.1, c.2⟩
    · rw [if_neg c] at h ⊢
      obtain ⟨k, h1, h2, h3⟩ := scan_true d (i + 1) h
      exact ⟨k, by omega, by omega, h3⟩
theorem scan_false {O : Nat → Bool} {A : Nat → Int} {a : Int} : ∀ (d i : Nat), (∀ k, i ≤ k → k < i + d → ¬ (O k = true ∧ A k = a)) → scan O A a d i = (0, false)
  | 0, i, h => rfl
  | d + 1, i, h => by
    unfold scan
    rw [if_neg (h i (by omega) (by omega))]
    exact scan_false d (i + 1) (fun k h1 h2 => h k (by omega) (by omega))
theorem on_true {O : Nat → Bool} {A : Nat → Int} {a : Int} (hv : Inv O A) (h : (onS O A a).2 = true) : 0 ≤ a ∧ ∃ k : Nat, k < 4 ∧ (onS O A a).1 = (k : Int) ∧ O k = true ∧ A k = a := by
  rw [onS_eq hv] at h ⊢
  by_cases c : a < 0
  · rw [if_pos c] at h; cases h
  · rw [if_neg c] at h ⊢
    obtain ⟨k, _, h2, h3⟩ := scan_true 4 0 h
    exact ⟨by omega, k, by omega, h3⟩
/-- dropped once, it is on none. -/
theorem on_again {O : Nat → Bool} {A : Nat → Int} {a : Int} (hv : Inv O A) (h : (onS O A a).2 = true) : ∀ k, k < 4 → ¬ (O k = true ∧ upd A (onS O A a).1.toNat (-1) k = a) := by
  obtain ⟨ha, n, hn, h1, h2, h3⟩ := on_true hv h
  rw [h1, Int.toNat_natCast]
  intro k hk ⟨q1, q2⟩
  unfold upd at q2
  by_cases e : k = n
  · rw [if_pos e] at q2; omega
  · rw [if_neg e] at q2
    exact e (hv.2.2 k n hk hn q1 h2 (by omega) (by rw [q2, h3]))
theorem on_again_eq {O : Nat → Bool} {A : Nat → Int} {a : Int} (hv : Inv O A) (h : (onS O A a).2 = true) : onS O (upd A (onS O A a).1.toNat (-1)) a = (0, false) := by
  have h0 := on_again hv h
  unfold onS at h0 ⊢
  rw [show askS O 0 0 = 0 by unfold askS; rw [if_neg (by decide), if_neg (by decide)]; exact if_pos hv.1] at h0 ⊢
  rw [if_pos rfl] at h0 ⊢
  by_cases c : a < 0
  · rw [if_pos c]
  · rw [if_neg c] at h0 ⊢
    rw [if_pos rfl, if_neg c] at *
    exact scan_false 4 0 (fun k _ h2 => h0 k (by omega))
set_option maxHeartbeats 8000000 in
theorem Drop_ok (g : Nat) (O : Nat → Bool) (A : Nat → Int) (a : Int) (w : World) (h : St w g true O A) (hv : Inv O A) : Calls Try.prog 13 #[.pointer (some ⟨g, 0, none⟩), .int .i64 a] w fun e w' => ∃ v, e = .returned v ∧ Kd.R (Kd.int .i64) 3 w' w.heap.size (fun _ => True) v (dpS O A a) ∧ St w' g true O (dpA O A a) ∧ But g w w' := by
  have HB := Aside0.mk (But.refl g w)
  have HG := Aside0.mk h.lt
  have HS := Aside0.mk h
  have HV := Aside0.mk hv
  clear h hv
  have hu38 := Try.underlying38
  have hu36 := Try.underlying36
  have hu35 := Try.underlying35
  unfold dpS dpA
  have HT := Aside0.mk (@on_true O A a HV.out)
  have HE := Aside0.mk (@on_again_eq O A a HV.out)
  obtain ⟨⟨x, b⟩, hx⟩ : ∃ X_ : Int × Bool, X_ = onS O A a := ⟨_, rfl⟩
  rw [← hx] at HT HE ⊢
  have HX := Aside0.mk hx
  clear hx
  simp only at HT HE ⊢
  cases b with
  | false =>
    rw [if_neg (by decide), if_neg (by decide)]
    go_enter Try.func13, Try.ntmps13
    go_wp2_with (first | (go_at_call 9; (with_reducible refine (On_ok g O A a _ (HS.out.block rfl)).mono ?_); rintro e w1 ⟨rfl, hb⟩; rw [← HX.out]; have n0_ := Aside0.mk (HS.out.block (hb.block _ HS.out.lt)); have n1_ := Aside0.mk (HB.out.below hb); clear HB HS hb; have HS := n0_; have HB := n1_; clear n0_ n1_))
    go_loopg [5, 6, 7] 1 (fun kq v5 v6 v7 w' => v5 = .slice none 0 0 ∧ v7 = .bool false ∧ Aside0 (St w' g true O A) ∧ Aside0 (But g w w'))
    case atStart => exact ⟨rfl, rfl, ⟨HS.out.block rfl⟩, HB⟩
    case round =>
      clear HB HS
      obtain ⟨rfl, rfl, HS, HB⟩ := hrel
      go_wp2
      go_ret
      exact ⟨_, rfl, Kd.R_nil _ _ _ _ _, HS.out.block rfl, HB.out⟩
  | true =>
    rw [if_pos rfl, if_pos rfl]
    obtain ⟨ha, n, hn, hxn, hO, hA⟩ := HT.out rfl
    have he := HE.out rfl
    have Q4 := Aside0.mk (show x.toNat < 4 by omega)
    have q1 := eq_true (show 0 ≤ x by omega)
    have q2 := eq_true (show x < 4 by omega)
    have HE2 := Aside0.mk he
    clear ha hxn hO hA he HT HE hn
    go_enter Try.func13, Try.ntmps13
    go_wp2_with (first | (go_at_call 9; (with_reducible refine (On_ok g O A a _ (HS.out.block rfl)).mono ?_); rintro e w1 ⟨rfl, hb⟩; rw [← HX.out]; have n0_ := Aside0.mk (HS.out.block (hb.block _ HS.out.lt)); have n1_ := Aside0.mk (HB.out.below hb); clear HB HS hb; have HS := n0_; have HB := n1_; clear n0_ n1_))
    go_loopg [5, 6, 7] 2 (fun kq v5 v6 v7 w' => (v5 = .slice none 0 0 ∧ v6 = .int .i64 x ∧ v7 = .bool true ∧ Aside0 (0 < kq) ∧ Aside0 (St w' g true O A) ∧ Aside0 (But g w w')) ∨ (v7 = .bool false ∧ Aside0 (Kd.R (Kd.int .i64) 3 w' w.heap.size (fun _ => True) v5 [x]) ∧ Aside0 (St w' g true O (upd A x.toNat (-1))) ∧ Aside0 (But g w w')))
    case atStart => exact .inl ⟨rfl, rfl, rfl, ⟨by decide⟩, ⟨HS.out.block rfl⟩, HB⟩
    case round =>
      clear HB HS
      rcases hrel with ⟨rfl, rfl, rfl, HK, HS, HB⟩ | ⟨rfl, HRW, HS, HB⟩
      · cases gk with
        | zero => exact absurd HK.out (by decide)
        | succ k1 =>
          have ha := HS.out.app Q4.out
          have hf := HS.out.frozen (1 + x.toNat * 2 + 1)
          go_upto_region 6 with (fail)
          obtain ⟨W5, hW5⟩ : ∃ W_ : World, W_ = wr.setCell ⟨g, 1 + x.toNat * 2 + 1, none⟩ (.int .i64 (-1)) := ⟨_, rfl⟩
          rw [← hW5]
          have n0_ := Aside0.mk (show St W5 g true O (upd A x.toNat (-1)) by rw [hW5]; exact HS.out.setApp Q4.out (-1))
          have n1_ := Aside0.mk (show But g w W5 by rw [hW5]; exact HB.out.set _ _)
          clear HS HB hW5 ha hf
          have HS := n0_
          have HB := n1_
          clear n0_ n1_
          have HSZ := Aside0.mk HB.out.size
          go_wp2_with (first | ((with_reducible refine gate_builtin (b := .append) (xs := #[.tmp 27, .tmp 29]) rfl ?_); at_builtin; refine Kd.R_append (Kd.int .i64) (w0 := W5) w.heap.size rfl (.tmp 27) (.tmp 29) 28 3 (.int .i64 0) 8 rfl Try.underlying28 info3 rfl (by decide) (by omega) (.slice none 0 0) [] x [.int .i64 x] (fun _ => True) (fun _ => False) rfl rfl ?aP (fun _ hk => hk.elim) ?aF ?aO ?aB ?aS ?aL ?_; (case aP => exact rfl); (case aB => exact Below.refl _ _); (case aF => exact (fun _ _ => trivial)); (case aO => exact Kd.R_nil _ _ _ _ _); (case aS => exact HSZ.out); (case aL => simp); intro v6_ w6_ ho hbb hg hat; have HR6 := Aside0.mk ho; have n0_ := Aside0.mk (HS.out.block (hbb.block _ HG.out)); have n1_ := Aside0.mk (HB.out.base hbb); clear HS HB; have HS := n0_; have HB := n1_; clear ho hg hbb hat n0_ n1_) | (go_at_call 9; (with_reducible refine (On_ok g O (upd A x.toNat (-1)) a _ (HS.out.block rfl)).mono ?_); rintro e w1 ⟨rfl, hb⟩; rw [HE2.out]; have n0_ := Aside0.mk (HS.out.block (hb.block _ HS.out.lt)); have n1_ := Aside0.mk (HB.out.below hb); have n2_ := Aside0.mk (Kd.R_below HR6.out hb); clear HB HS HR6 hb; have HS := n0_; have HB := n1_; have HR6 := n2_; clear n0_ n1_ n2_))
          go_roundg k1
          case measure => omega
          case rel => exact .inr ⟨rfl, ⟨by (with_reducible repeat (first | apply Kd.R_alloc | apply Kd.R_drewN | apply Kd.R_drew)); exact HR6.out⟩, ⟨HS.out.block rfl⟩, HB⟩
      · go_wp2
        go_ret
        exact ⟨_, rfl, HRW.out, HS.out.block rfl, HB.out⟩
end Go.Proofs.YtkfaimhjdfpjhaaW.Chans
