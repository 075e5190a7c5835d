import Derived.Test.YtkfaimhjdfpjhaaProg
import Derived.Below
import Derived.Deep.Draws
import Derived.Deep.AppendLies
import Derived.Maps.AppendAt
import Derived.OwnWalk
import Derived.Laws.BytesArg
import Derived.Laws.MakeOwn
import Derived.Laws.OwnMore
import Derived.Deep.OwnRows
import Derived.Tactics
import Derived.Lib.ConvBytes
import Derived.Laws.Slices
import Derived.WalkKit
import Derived.KernelRfl
import Derived.RowKit3
import Derived.Deep.LoopGhost
import Derived.Deep.QuietTactic
import Derived.BigQuiet
import Derived.WideLaws
import Derived.Deep.DeepCutAuto
import Derived.Deep.CutBlock
import Derived.Deep.RegionHeld3
import Derived.Laws.Rows
import Derived.Lib.AppendStr
import Derived.ArgAppend
import Derived.Laws.IdiomCopy
import Derived.OrdersHeld
import Derived.Laws.BitsLemmas
import Derived.RowKit
import Derived.Test.YtkfaimhjdfpjhaaWWords
import Derived.Test.YtkfaimhjdfpjhaaWLast
import Derived.Test.YtkfaimhjdfpjhaaWTab
import Derived.Test.YtkfaimhjdfpjhaaWFour
import Derived.Test.YtkfaimhjdfpjhaaWQPut
import Derived.Test.YtkfaimhjdfpjhaaWApart
import Derived.Test.YtkfaimhjdfpjhaaWArr
import Derived.Test.YtkfaimhjdfpjhaaWZeros
import Derived.Test.YtkfaimhjdfpjhaaWFoot
import Derived.Test.YtkfaimhjdfpjhaaWKept
import Derived.Test.YtkfaimhjdfpjhaaWShare
import Derived.Test.YtkfaimhjdfpjhaaWN
import Derived.Test.YtkfaimhjdfpjhaaWFootNe
import Derived.Test.YtkfaimhjdfpjhaaWAt
import Derived.Test.YtkfaimhjdfpjhaaWEqStruct
import Derived.Test.YtkfaimhjdfpjhaaWRepsOne
import Derived.Test.YtkfaimhjdfpjhaaWInv
import Derived.Test.YtkfaimhjdfpjhaaWInvWords
import Derived.Test.YtkfaimhjdfpjhaaWGuard
import Derived.Test.YtkfaimhjdfpjhaaWNEv
import Derived.Test.YtkfaimhjdfpjhaaWMore
namespace Go.Proofs.YtkfaimhjdfpjhaaW.Chans
open Go Go.RowKit Go.Proofs Go.Proofs.YtkfaimhjdfpjhaaW.PrintWords Go.Proofs.YtkfaimhjdfpjhaaW.PrintLast Go.Proofs.YtkfaimhjdfpjhaaW.PrintMore
set_option linter.unusedVariables false
set_option linter.unusedSimpArgs false

/-- A *Chans: made or not, which are open, what is selected. -/
def St (w : World) (g : Nat) (m : Bool) (O : Nat → Bool) (A : Nat → Int) : Prop :=
  ∃ c : Array Value, w.heap[g]? = some (.cells c 38 (0, 0)) ∧ c.size = 9 ∧ c[0]? = some (.bool m) ∧ ∀ n, n < 4 → c[1 + n * 2]? = some (.bool (O n)) ∧ c[1 + n * 2 + 1]? = some (.int .i64 (A n))
def upd {α : Type} (f : Nat → α) (n : Nat) (v : α) : Nat → α := fun k => if k = n then v else f k
section
variable {w w' : World} {g : Nat} {m : Bool} {O : Nat → Bool} {A : Nat → Int}
theorem St.made (h : St w g m O A) : w.cell? ⟨g, 0, none⟩ = some (.bool m) := by
  obtain ⟨c, hc, _, h0, _⟩ := h
  exact (blk_cell hc 0).trans h0
theorem St.open_ (h : St w g m O A) {n : Nat} (hn : n < 4) : w.cell? ⟨g, 1 + n * 2, none⟩ = some (.bool (O n)) := by
  obtain ⟨c, hc, _, _, h1⟩ := h
  exact (blk_cell hc _).trans (h1 n hn).1
theorem St.app (h : St w g m O A) {n : Nat} (hn : n < 4) : w.cell? ⟨g, 1 + n * 2 + 1, none⟩ = some (.int .i64 (A n)) := by
  obtain ⟨c, hc, _, _, h1⟩ := h
  exact (blk_cell hc _).trans (h1 n hn).2
theorem St.frozen (h : St w g m O A) (i : Nat) : w.frozen? ⟨g, i, none⟩ = false := by
  obtain ⟨c, hc, _⟩ := h
  exact blk_frozen hc i
theorem St.lt (h : St w g m O A) : g < w.heap.size := by
  obtain ⟨c, hc, _⟩ := h
  exact blk_lt hc
theorem St.block (h : St w g m O A) (hb : w'.heap[g]? = w.heap[g]?) : St w' g m O A := by
  obtain ⟨c, hc, h2⟩ := h
  exact ⟨c, hb.trans hc, h2⟩
theorem St.below (h : St w g m O A) (hb : Below w.heap.size w w') : St w' g m O A := h.block (hb.block g h.lt)
theorem St.setOpen (h : St w g m O A) {n : Nat} (hn : n < 4) (b : Bool) : St (w.setCell ⟨g, 1 + n * 2, none⟩ (.bool b)) g m (upd O n b) A := by
  obtain ⟨c, hc, hs, h0, h1⟩ := h
  refine ⟨_, blk_set hc _ _, by simp [hs], ?_, fun k hk => ⟨?_, ?_⟩⟩
  · rw [Array.getElem?_setIfInBounds_ne (by omega)]; exact h0
  · unfold upd
    by_cases e : k = n
    · subst e
      rw [if_pos rfl, Array.getElem?_setIfInBounds_self_of_lt (by omega)]
    · rw [if_neg e, Array.getElem?_setIfInBounds_ne (by omega)]; exact (h1 k hk).1
  · rw [Array.getElem?_setIfInBounds_ne (by omega)]; exact (h1 k hk).2
theorem St.setApp (h : St w g m O A) {n : Nat} (hn : n < 4) (v : Int) : St (w.setCell ⟨g, 1 + n * 2 + 1, none⟩ (.int .i64 v)) g m O (upd A n v) := by
  obtain ⟨c, hc, hs, h0, h1⟩ := h
  refine ⟨_, blk_set hc _ _, by simp [hs], ?_, fun k hk => ⟨?_, ?_⟩⟩
  · rw [Array.getElem?_setIfInBounds_ne (by omega)]; exact h0
  · rw [Array.getElem?_setIfInBounds_ne (by omega)]; exact (h1 k hk).1
  · unfold upd
    by_cases e : k = n
    · subst e
      rw [if_pos rfl, Array.getElem?_setIfInBounds_self_of_lt (by omega)]
    · rw [if_neg e, Array.getElem?_setIfInBounds_ne (by omega)]; exact (h1 k hk).2
end

def askS (O : Nat → Bool) (n f : Int) : Int := if n < f then 2 else if 4 ≤ n then 2 else if O n.toNat = true then 0 else 6
set_option maxHeartbeats 4000000 in
theorem ask_nil (n f : Int) (w : World) : Calls Try.prog 18 #[.pointer none, .int .i64 n, .int .i64 f] w fun e w' => e = .returned (.int .i64 1) ∧ Below w.heap.size w w' := by
  have HB := Aside0.mk (Below.refl w.heap.size w)
  go_enter Try.func18, Try.ntmps18
  go_wp2
  go_ret
  exact ⟨rfl, by repeat (first | (with_reducible first | exact HB.out | apply below_alloc | apply pw_below_drewN | apply below_drew1) | exact HB.out)⟩
set_option maxHeartbeats 4000000 in
theorem ask_zero (g : Nat) (O : Nat → Bool) (A : Nat → Int) (n f : Int) (w : World) (h : St w g false O A) : Calls Try.prog 18 #[.pointer (some ⟨g, 0, none⟩), .int .i64 n, .int .i64 f] w fun e w' => e = .returned (.int .i64 1) ∧ Below w.heap.size w w' := by
  have HB := Aside0.mk (Below.refl w.heap.size w)
  have h0 := h.made
  have hu38 := Try.underlying38
  clear h
  go_enter Try.func18, Try.ntmps18
  go_wp2
  go_ret
  exact ⟨rfl, by repeat (first | (with_reducible first | exact HB.out | apply below_alloc | apply pw_below_drewN | apply below_drew1) | exact HB.out)⟩
set_option maxHeartbeats 4000000 in
theorem ask_ok (g : Nat) (O : Nat → Bool) (A : Nat → Int) (n f : Int) (w : World) (h : St w g true O A) (hf : 0 ≤ f) : Calls Try.prog 18 #[.pointer (some ⟨g, 0, none⟩), .int .i64 n, .int .i64 f] w fun e w' => e = .returned (.int .i64 (askS O n f)) ∧ Below w.heap.size w w' := by
  have HB := Aside0.mk (Below.refl w.heap.size w)
  have h0 := h.made
  have HS := Aside0.mk h
  have hu38 := Try.underlying38
  have hu36 := Try.underlying36
  have hu35 := Try.underlying35
  clear h
  have HF := Aside0.mk hf
  clear hf
  obtain ⟨R, hR⟩ : ∃ R_ : Int, R_ = askS O n f := ⟨_, rfl⟩
  rw [← hR]
  unfold askS at hR
  have HR := Aside0.mk hR
  clear hR
  go_enter Try.func18, Try.ntmps18
  by_cases c1 : n < f
  · have c1b : decide (n < f) = true := decide_eq_true c1
    have hR := HR.out
    rw [if_pos c1] at hR
    subst hR
    clear c1
    go_wp2
    go_ret
    exact ⟨rfl, by repeat (first | (with_reducible first | exact HB.out | apply below_alloc | apply pw_below_drewN | apply below_drew1) | exact HB.out)⟩
  · have c1b : decide (n < f) = false := decide_eq_false c1
    have C1 := Aside0.mk c1
    by_cases c2 : 4 ≤ n
    · have c2b : decide (4 ≤ n) = true := decide_eq_true c2
      have hR := HR.out
      rw [if_neg c1, if_pos c2] at hR
      subst hR
      clear c1 c2
      go_wp2
      go_ret
      exact ⟨rfl, by repeat (first | (with_reducible first | exact HB.out | apply below_alloc | apply pw_below_drewN | apply below_drew1) | exact HB.out)⟩
    · have c2b : decide (4 ≤ n) = false := decide_eq_false c2
      have hR := HR.out
      rw [if_neg c1, if_neg c2] at hR
      clear c1
      have hn0 : 0 ≤ n := by have := C1.out; have := HF.out; omega
      have hn4 : n < 4 := by omega
      have ho := HS.out.open_ (n := n.toNat) (by omega)
      clear c2
      replace hn0 := eq_true hn0
      replace hn4 := eq_true hn4
      obtain ⟨b, hb⟩ : ∃ b_ : Bool, b_ = O n.toNat := ⟨_, rfl⟩
      rw [← hb] at ho hR
      clear hb
      cases b with
      | true =>
        rw [if_pos rfl] at hR
        subst hR
        go_wp2
        go_ret
        exact ⟨rfl, by repeat (first | (with_reducible first | exact HB.out | apply below_alloc | apply pw_below_drewN | apply below_drew1) | exact HB.out)⟩
      | false =>
        rw [if_neg (by decide)] at hR
        subst hR
        go_wp2
        go_ret
        exact ⟨rfl, by repeat (first | (with_reducible first | exact HB.out | apply below_alloc | apply pw_below_drewN | apply below_drew1) | exact HB.out)⟩
end Go.Proofs.YtkfaimhjdfpjhaaW.Chans
