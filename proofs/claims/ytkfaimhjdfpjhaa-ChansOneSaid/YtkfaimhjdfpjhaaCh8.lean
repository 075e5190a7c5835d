import Derived.Test.YtkfaimhjdfpjhaaProg
import Derived.Below
import Derived.Deep.Draws
import Derived.Deep.AppendLies
import Derived.Maps.AppendAt
import Derived.OwnWalk
import Derived.Laws.BytesArg
import Derived.Laws.MakeOwn
import Derived.Laws.OwnMore
import Derived.Deep.OwnRows
import Derived.Tactics
import Derived.Lib.ConvBytes
import Derived.Laws.Slices
import Derived.WalkKit
import Derived.KernelRfl
import Derived.RowKit3
import Derived.Deep.LoopGhost
import Derived.Deep.QuietTactic
import Derived.BigQuiet
import Derived.WideLaws
import Derived.Deep.DeepCutAuto
import Derived.Deep.CutBlock
import Derived.Deep.RegionHeld3
import Derived.Laws.Rows
import Derived.Lib.AppendStr
import Derived.ArgAppend
import Derived.Laws.IdiomCopy
import Derived.OrdersHeld
import Derived.Laws.BitsLemmas
import Derived.RowKit
import Derived.Test.YtkfaimhjdfpjhaaMine
import Derived.Test.YtkfaimhjdfpjhaaMine2
import Derived.Test.YtkfaimhjdfpjhaaCh1
import Derived.Test.YtkfaimhjdfpjhaaCh2
import Derived.Test.YtkfaimhjdfpjhaaCh3
import Derived.Test.YtkfaimhjdfpjhaaCh4
import Derived.Test.YtkfaimhjdfpjhaaCh5
import Derived.Test.YtkfaimhjdfpjhaaCh6
import Derived.Test.YtkfaimhjdfpjhaaCh7
import Derived.Test.YtkfaimhjdfpjhaaWWords
import Derived.Test.YtkfaimhjdfpjhaaWLast
import Derived.Test.YtkfaimhjdfpjhaaWTab
import Derived.Test.YtkfaimhjdfpjhaaWFour
import Derived.Test.YtkfaimhjdfpjhaaWQPut
import Derived.Test.YtkfaimhjdfpjhaaWApart
import Derived.Test.YtkfaimhjdfpjhaaWArr
import Derived.Test.YtkfaimhjdfpjhaaWZeros
import Derived.Test.YtkfaimhjdfpjhaaWFoot
import Derived.Test.YtkfaimhjdfpjhaaWKept
import Derived.Test.YtkfaimhjdfpjhaaWShare
import Derived.Test.YtkfaimhjdfpjhaaWN
import Derived.Test.YtkfaimhjdfpjhaaWFootNe
import Derived.Test.YtkfaimhjdfpjhaaWAt
import Derived.Test.YtkfaimhjdfpjhaaWEqStruct
import Derived.Test.YtkfaimhjdfpjhaaWRepsOne
import Derived.Test.YtkfaimhjdfpjhaaWInv
import Derived.Test.YtkfaimhjdfpjhaaWInvWords
import Derived.Test.YtkfaimhjdfpjhaaWGuard
import Derived.Test.YtkfaimhjdfpjhaaWNEv
import Derived.Test.YtkfaimhjdfpjhaaWMore
import Derived.Test.YtkfaimhjdfpjhaaMine2
import Derived.Test.YtkfaimhjdfpjhaaCh7
namespace Go.Proofs.YtkfaimhjdfpjhaaW.Chans
open Go Go.RowKit Go.Proofs Go.Proofs.YtkfaimhjdfpjhaaW.PrintWords Go.Proofs.YtkfaimhjdfpjhaaW.PrintLast Go.Proofs.YtkfaimhjdfpjhaaW.PrintMore
set_option linter.unusedVariables false
set_option linter.unusedSimpArgs false

def L (O : Nat → Bool) (A : Nat → Int) (n : Nat) : Int := if O n = true then A n else -2
/-- What holds of what is played. -/
def Inv (O : Nat → Bool) (A : Nat → Int) : Prop := O 0 = true ∧ (∀ n, n < 4 → -1 ≤ A n) ∧ ∀ i j, i < 4 → j < 4 → O i = true → O j = true → 0 ≤ A i → A i = A j → i = j
/-- the document's *Chans. -/
def Rt (w : World) (g : Nat) (O : Nat → Bool) (A : Nat → Int) : Prop :=
  ∃ c : Array Value, w.heap[g]? = some (.cells c 54 (0, 0)) ∧ c.size = 4 ∧ ∀ n, n < 4 → c[n]? = some (.int .i64 (L O A n))
theorem L_eq {O : Nat → Bool} {A : Nat → Int} (h : Inv O A) {n : Nat} (hn : n < 4) : L O A n = -2 ↔ O n = false := by
  have := h.2.1 n hn
  unfold L
  cases O n <;> simp
  omega
section
variable {w w' : World} {g : Nat} {O : Nat → Bool} {A : Nat → Int}
theorem Rt.at_ (h : Rt w g O A) {n : Nat} (hn : n < 4) : w.cell? ⟨g, n, none⟩ = some (.int .i64 (L O A n)) := by
  obtain ⟨c, hc, _, h1⟩ := h
  exact (blk_cell hc _).trans (h1 n hn)
theorem Rt.frozen (h : Rt w g O A) (i : Nat) : w.frozen? ⟨g, i, none⟩ = false := by
  obtain ⟨c, hc, _⟩ := h
  exact blk_frozen hc i
theorem Rt.lt (h : Rt w g O A) : g < w.heap.size := by
  obtain ⟨c, hc, _⟩ := h
  exact blk_lt hc
theorem Rt.block (h : Rt w g O A) (hb : w'.heap[g]? = w.heap[g]?) : Rt w' g O A := by
  obtain ⟨c, hc, h2⟩ := h
  exact ⟨c, hb.trans hc, h2⟩
theorem Rt.set (h : Rt w g O A) {n : Nat} (hn : n < 4) (v : Int) {O' : Nat → Bool} {A' : Nat → Int} (e : ∀ k, k < 4 → L O' A' k = if k = n then v else L O A k) : Rt (w.setCell ⟨g, n, none⟩ (.int .i64 v)) g O' A' := by
  obtain ⟨c, hc, hs, h1⟩ := h
  refine ⟨_, blk_set hc _ _, by simp [hs], fun k hk => ?_⟩
  rw [e k hk]
  by_cases ek : k = n
  · subst ek
    rw [if_pos rfl, Array.getElem?_setIfInBounds_self_of_lt (by omega)]
  · rw [if_neg ek, Array.getElem?_setIfInBounds_ne (by omega)]; exact h1 k hk
end
theorem Rt.start {w : World} {g : Nat} (h : w.heap[g]? = some (.cells #[.int .i64 (-1), .int .i64 (-2), .int .i64 (-2), .int .i64 (-2)] 54 (0, 0))) : Rt w g O0 A0 := by
  refine ⟨_, h, rfl, fun n hn => ?_⟩
  match n, hn with
  | 0, _ => rfl
  | 1, _ => rfl
  | 2, _ => rfl
  | 3, _ => rfl
set_option maxHeartbeats 4000000 in
theorem rNew_calls (w : World) : Calls Try.prog 16 #[] w fun e w' => ∃ g, e = .returned (.pointer (some ⟨g, 0, none⟩)) ∧ w.heap.size ≤ g ∧ w'.heap[g]? = some (.cells #[.int .i64 (-1), .int .i64 (-2), .int .i64 (-2), .int .i64 (-2)] 54 (0, 0)) ∧ Below w.heap.size w w' := by
  have HB := Aside0.mk (Below.refl w.heap.size w)
  have hu54 := Try.underlying54
  have hu52 := Try.underlying52
  go_enter Try.func16, Try.ntmps16
  go_wp2
  go_ret
  exact ⟨_, rfl, Nat.le_refl _, blk_new _ _, below_alloc HB.out _⟩
set_option maxHeartbeats 4000000 in
theorem rSelected_ok (g : Nat) (O : Nat → Bool) (A : Nat → Int) (n : Int) (w : World) (h : Rt w g O A) (hv : Inv O A) : Calls Try.prog 23 #[.pointer (some ⟨g, 0, none⟩), .int .i64 n] w fun e w' => e = .returned (.tuple #[.int .i64 (selS O A n).1, .int .i64 (selS O A n).2]) ∧ Below w.heap.size w w' := by
  have HB := Aside0.mk (Below.refl w.heap.size w)
  have HS := Aside0.mk h
  have HV := Aside0.mk hv
  clear h hv
  have hu54 := Try.underlying54
  have hu52 := Try.underlying52
  obtain ⟨⟨r1, r2⟩, hR⟩ : ∃ R_ : Int × Int, R_ = selS O A n := ⟨_, rfl⟩
  rw [← hR]
  unfold selS askS at hR
  have HR := Aside0.mk hR
  clear hR
  by_cases c1 : n < 0
  · have c1b : decide (n < 0) = true := decide_eq_true c1
    have hR := HR.out
    simp [c1] at hR
    obtain ⟨rfl, rfl⟩ := hR
    clear c1
    go_enter Try.func23, Try.ntmps23
    go_wp2
    go_ret2
    exact ⟨rfl, by repeat (first | (with_reducible first | exact HB.out | apply below_alloc | apply pw_below_drewN | apply below_drew1) | exact HB.out)⟩
  · have c1b : decide (n < 0) = false := decide_eq_false c1
    by_cases c2 : 3 < n
    · have c2b : decide (3 < n) = true := decide_eq_true c2
      have hR := HR.out
      have c3 : 4 ≤ n := by omega
      simp [c1, c3] at hR
      obtain ⟨rfl, rfl⟩ := hR
      clear c1 c2 c3
      go_enter Try.func23, Try.ntmps23
      go_wp2
      go_ret2
      exact ⟨rfl, by repeat (first | (with_reducible first | exact HB.out | apply below_alloc | apply pw_below_drewN | apply below_drew1) | exact HB.out)⟩
    · have c2b : decide (3 < n) = false := decide_eq_false c2
      have q1 := eq_true (show 0 ≤ n by omega)
      have q2 := eq_true (show n < 4 by omega)
      have hn4 : n.toNat < 4 := by omega
      have hl := HS.out.at_ hn4
      have he := L_eq HV.out hn4
      have c3 : ¬ 4 ≤ n := by omega
      have hR := HR.out
      rw [if_neg c1, if_neg c3] at hR
      clear c1 c2 c3 HR
      obtain ⟨y, hy⟩ : ∃ y_ : Int, y_ = L O A n.toNat := ⟨_, rfl⟩
      rw [← hy] at hl he
      unfold L at hy
      obtain ⟨b, hb⟩ : ∃ b_ : Bool, b_ = O n.toNat := ⟨_, rfl⟩
      rw [← hb] at hR he hy
      clear hb hn4
      cases b with
      | true =>
        have hne : y ≠ -2 := fun h => absurd (he.1 h) (by decide)
        have e1 : (y == -2) = false := beq_eq_false_iff_ne.mpr hne
        have e2 : decide (y = -2) = false := decide_eq_false hne
        simp at hR
        rw [if_pos rfl] at hy
        rw [← hy] at hR
        obtain ⟨rfl, rfl⟩ := hR
        clear he hne hy
        go_enter Try.func23, Try.ntmps23
        go_wp2
        go_ret2
        exact ⟨rfl, by repeat (first | (with_reducible first | exact HB.out | apply below_alloc | apply pw_below_drewN | apply below_drew1) | exact HB.out)⟩
      | false =>
        have hne : y = -2 := he.2 rfl
        subst hne
        simp at hR
        obtain ⟨rfl, rfl⟩ := hR
        clear he hy
        go_enter Try.func23, Try.ntmps23
        go_wp2
        go_ret2
        exact ⟨rfl, by repeat (first | (with_reducible first | exact HB.out | apply below_alloc | apply pw_below_drewN | apply below_drew1) | exact HB.out)⟩
theorem scanL {O : Nat → Bool} {A : Nat → Int} {a : Int} (ha : 0 ≤ a) (n : Nat) : (O n = true ∧ A n = a) ↔ L O A n = a := by
  unfold L
  cases O n
  · simp; omega
  · simp
theorem scan_neg {O : Nat → Bool} {A : Nat → Int} {a : Int} : ∀ (d i : Nat), i + d = 4 → Inv O A → a < -1 → scan O A a d i = (0, false)
  | 0, _, _, _, _ => rfl
  | d + 1, i, h, hv, ha => by
    have := hv.2.1 i (by omega)
    unfold scan
    rw [if_neg (by omega), scan_neg d (i + 1) (by omega) hv ha]
theorem onS_eq {O : Nat → Bool} {A : Nat → Int} (hv : Inv O A) (a : Int) : onS O A a = if a < 0 then (0, false) else scan O A a 4 0 := by
  unfold onS
  rw [show askS O 0 0 = 0 by unfold askS; rw [if_neg (by decide), if_neg (by decide)]; exact if_pos hv.1, if_pos rfl]
set_option maxHeartbeats 4000000 in
theorem rOn_ok (g : Nat) (O : Nat → Bool) (A : Nat → Int) (a : Int) (w : World) (h : Rt w g O A) (hv : Inv O A) : Calls Try.prog 24 #[.pointer (some ⟨g, 0, none⟩), .int .i64 a] w fun e w' => e = .returned (.tuple #[.int .i64 (onS O A a).1, .bool (onS O A a).2]) ∧ Below w.heap.size w w' := by
  have HB := Aside0.mk (Below.refl w.heap.size w)
  have HS := Aside0.mk h
  rw [onS_eq hv]
  have HV := Aside0.mk hv
  clear h hv
  have hu54 := Try.underlying54
  have hu52 := Try.underlying52
  by_cases c1 : a < 0
  · rw [if_pos c1]
    have c1b : decide (0 ≤ a) = false := decide_eq_false (by omega)
    clear c1
    go_enter Try.func24, Try.ntmps24
    go_wp2
    go_loopg [6] 4 (fun kq v6 w' => ∃ x : Int, v6 = .int .i64 x ∧ Aside0 (0 ≤ x ∧ (kq : Int) + x = 4) ∧ Aside0 (Below w.heap.size w w'))
    case atStart => exact ⟨0, rfl, ⟨by decide⟩, ⟨by repeat (first | (with_reducible first | exact HB.out | apply below_alloc | apply pw_below_drewN | apply below_drew1) | exact HB.out)⟩⟩
    case round =>
      clear HB
      obtain ⟨x, rfl, HI, HB⟩ := hrel
      cases gk with
      | zero =>
        have e4 : x = 4 := by have := HI.out; omega
        subst e4
        go_wp2
        go_ret2
        exact ⟨rfl, by repeat (first | (with_reducible first | exact HB.out | apply below_alloc | apply pw_below_drewN | apply below_drew1) | exact HB.out)⟩
      | succ k1 =>
        have hb1 : decide (x < 4) = true := decide_eq_true (by have := HI.out; omega)
        have hw : wrap64 (x + 1) = x + 1 := by have := HI.out; unfold wrap64; omega
        have HW := Aside0.mk hw
        clear hw
        go_wp2
        go_roundg k1
        case measure => omega
        case rel => exact ⟨x + 1, by rw [HW.out], ⟨by have := HI.out; omega⟩, ⟨by repeat (first | (with_reducible first | exact HB.out | apply below_alloc | apply pw_below_drewN | apply below_drew1) | exact HB.out)⟩⟩
  · rw [if_neg c1]
    have c1b : decide (0 ≤ a) = true := decide_eq_true (by omega)
    have HA0 := Aside0.mk (show 0 ≤ a by omega)
    clear c1
    obtain ⟨⟨r1, r2⟩, hR⟩ : ∃ R_ : Int × Bool, R_ = scan O A a 4 0 := ⟨_, rfl⟩
    rw [← hR]
    have HR := Aside0.mk hR
    clear hR
    go_enter Try.func24, Try.ntmps24
    go_wp2
    go_loopg [6] 4 (fun kq v6 w' => ∃ x : Int, v6 = .int .i64 x ∧ Aside0 (0 ≤ x ∧ (kq : Int) + x = 4) ∧ Aside0 (scan O A a kq x.toNat = (r1, r2)) ∧ Aside0 (Rt w' g O A) ∧ Aside0 (Below w.heap.size w w'))
    case atStart => exact ⟨0, rfl, ⟨by decide⟩, ⟨HR.out.symm⟩, ⟨HS.out.block rfl⟩, ⟨by repeat (first | (with_reducible first | exact HB.out | apply below_alloc | apply pw_below_drewN | apply below_drew1) | exact HB.out)⟩⟩
    case round =>
      clear HB HS
      obtain ⟨x, rfl, HI, HA, HS, HB⟩ := hrel
      cases gk with
      | zero =>
        have e4 : x = 4 := by have := HI.out; omega
        subst e4
        have hA := HA.out
        unfold scan at hA
        simp only [Prod.mk.injEq] at hA
        obtain ⟨rfl, rfl⟩ := hA
        go_wp2
        go_ret2
        exact ⟨rfl, by repeat (first | (with_reducible first | exact HB.out | apply below_alloc | apply pw_below_drewN | apply below_drew1) | exact HB.out)⟩
      | succ k1 =>
        have hi4 : x.toNat < 4 := by have := HI.out; omega
        have hl := HS.out.at_ hi4
        have hb1 : decide (x < 4) = true := decide_eq_true (by have := HI.out; omega)
        have q1 := eq_true (show (0 : Int) ≤ x by have := HI.out; omega)
        have q2 := eq_true (show x < 4 by have := HI.out; omega)
        have hw : wrap64 (x + 1) = x + 1 := by have := HI.out; unfold wrap64; omega
        have HW := Aside0.mk hw
        clear hw hi4
        have hA := HA.out
        unfold scan at hA
        clear HA
        have hx : ((x.toNat : Nat) : Int) = x := Int.toNat_of_nonneg (of_eq_true q1)
        rw [hx] at hA
        clear hx
        have hs := scanL (O := O) (A := A) HA0.out x.toNat
        obtain ⟨y, hy⟩ : ∃ y_ : Int, y_ = L O A x.toNat := ⟨_, rfl⟩
        rw [← hy] at hl hs
        clear hy
        by_cases c3 : y = a
        · rw [if_pos (hs.2 c3)] at hA
          simp only [Prod.mk.injEq] at hA
          obtain ⟨rfl, rfl⟩ := hA
          have c3b : (y == a) = true := beq_iff_eq.mpr c3
          clear c3 hs
          go_wp2
          go_ret2
          exact ⟨rfl, by repeat (first | (with_reducible first | exact HB.out | apply below_alloc | apply pw_below_drewN | apply below_drew1) | exact HB.out)⟩
        · rw [if_neg (fun h => c3 (hs.1 h))] at hA
          have c3b : (y == a) = false := beq_eq_false_iff_ne.mpr c3
          clear c3 hs
          have HA := Aside0.mk hA
          clear hA
          go_wp2
          go_roundg k1
          case measure => omega
          case rel => exact ⟨x + 1, by rw [HW.out], ⟨by have := HI.out; omega⟩, ⟨by rw [show (x + 1).toNat = x.toNat + 1 from by have := HI.out; omega]; exact HA.out⟩, ⟨HS.out.block rfl⟩, ⟨by repeat (first | (with_reducible first | exact HB.out | apply below_alloc | apply pw_below_drewN | apply below_drew1) | exact HB.out)⟩⟩
end Go.Proofs.YtkfaimhjdfpjhaaW.Chans
