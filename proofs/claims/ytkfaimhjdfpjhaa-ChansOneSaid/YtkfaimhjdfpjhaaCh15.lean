import Derived.Test.YtkfaimhjdfpjhaaProg
import Derived.Below
import Derived.Deep.Draws
import Derived.Deep.AppendLies
import Derived.Maps.AppendAt
import Derived.OwnWalk
import Derived.Laws.BytesArg
import Derived.Laws.MakeOwn
import Derived.Laws.OwnMore
import Derived.Deep.OwnRows
import Derived.Tactics
import Derived.Lib.ConvBytes
import Derived.Laws.Slices
import Derived.WalkKit
import Derived.KernelRfl
import Derived.RowKit3
import Derived.Deep.LoopGhost
import Derived.Deep.QuietTactic
import Derived.BigQuiet
import Derived.WideLaws
import Derived.Deep.DeepCutAuto
import Derived.Deep.CutBlock
import Derived.Deep.RegionHeld3
import Derived.Laws.Rows
import Derived.Lib.AppendStr
import Derived.ArgAppend
import Derived.Laws.IdiomCopy
import Derived.OrdersHeld
import Derived.Laws.BitsLemmas
import Derived.RowKit
import Derived.Test.YtkfaimhjdfpjhaaMine
import Derived.Test.YtkfaimhjdfpjhaaMine2
import Derived.Test.YtkfaimhjdfpjhaaCh1
import Derived.Test.YtkfaimhjdfpjhaaCh2
import Derived.Test.YtkfaimhjdfpjhaaCh3
import Derived.Test.YtkfaimhjdfpjhaaCh4
import Derived.Test.YtkfaimhjdfpjhaaCh5
import Derived.Test.YtkfaimhjdfpjhaaCh6
import Derived.Test.YtkfaimhjdfpjhaaCh7
import Derived.Test.YtkfaimhjdfpjhaaWWords
import Derived.Test.YtkfaimhjdfpjhaaWLast
import Derived.Test.YtkfaimhjdfpjhaaWTab
import Derived.Test.YtkfaimhjdfpjhaaWFour
import Derived.Test.YtkfaimhjdfpjhaaWQPut
import Derived.Test.YtkfaimhjdfpjhaaWApart
import Derived.Test.YtkfaimhjdfpjhaaWArr
import Derived.Test.YtkfaimhjdfpjhaaWZeros
import Derived.Test.YtkfaimhjdfpjhaaWFoot
import Derived.Test.YtkfaimhjdfpjhaaWKept
import Derived.Test.YtkfaimhjdfpjhaaWShare
import Derived.Test.YtkfaimhjdfpjhaaWN
import Derived.Test.YtkfaimhjdfpjhaaWFootNe
import Derived.Test.YtkfaimhjdfpjhaaWAt
import Derived.Test.YtkfaimhjdfpjhaaWEqStruct
import Derived.Test.YtkfaimhjdfpjhaaWRepsOne
import Derived.Test.YtkfaimhjdfpjhaaWInv
import Derived.Test.YtkfaimhjdfpjhaaWInvWords
import Derived.Test.YtkfaimhjdfpjhaaWGuard
import Derived.Test.YtkfaimhjdfpjhaaWNEv
import Derived.Test.YtkfaimhjdfpjhaaWMore
import Derived.Test.YtkfaimhjdfpjhaaMine2
import Derived.Test.YtkfaimhjdfpjhaaCh14
namespace Go.Proofs.YtkfaimhjdfpjhaaW.Chans
open Go Go.RowKit Go.Proofs Go.Proofs.YtkfaimhjdfpjhaaW.PrintWords Go.Proofs.YtkfaimhjdfpjhaaW.PrintLast Go.Proofs.YtkfaimhjdfpjhaaW.PrintMore
set_option linter.unusedVariables false
set_option linter.unusedSimpArgs false

def P (O : Nat → Bool) (A : Nat → Int) (acc : List Int) (x : Int) : Prop := (acc.length : Int) ≤ x ∧ ∀ v, v ∈ acc → ∃ m : Nat, (m : Int) < x ∧ O m = true ∧ A m = v
section
variable {O : Nat → Bool} {A : Nat → Int} {acc : List Int} {x a : Int}
theorem P_next (h : P O A acc x) : P O A acc (x + 1) := ⟨by have := h.1; omega, fun v hv => by obtain ⟨m, h1, h2⟩ := h.2 v hv; exact ⟨m, by omega, h2⟩⟩
theorem P_more (h : P O A acc x) (h0 : 0 ≤ x) (ho : O x.toNat = true) (ha : a = A x.toNat) : P O A (acc ++ [a]) (x + 1) := by
  refine ⟨by have := h.1; rw [List.length_append, List.length_singleton]; omega, fun v hv => ?_⟩
  rcases List.mem_append.1 hv with hv | hv
  · exact (P_next h).2 v hv
  · rw [List.mem_singleton] at hv
    exact ⟨x.toNat, by omega, ho, by rw [hv, ha]⟩
theorem P_new (hv : Inv O A) (h : P O A acc x) (hx : x.toNat < 4) (ho : O x.toNat = true) (ha : a = A x.toNat) (h0 : 0 ≤ a) {v : Int} (hm : v ∈ acc) (he : v = a) : False := by
  obtain ⟨m, h1, h2, h3⟩ := h.2 v hm
  have := hv.2.2 m x.toNat (by omega) hx h2 ho (by rw [h3, he]; exact h0) (by rw [h3, he, ha])
  omega
theorem rd_mem {y : Int} (h0 : 0 ≤ y) (h1 : y < (acc.length : Int)) : rd acc y ∈ acc := by
  have h2 : y.toNat < acc.length := by omega
  have e : rd acc y = acc[y.toNat] := by simp [rd, h2]
  rw [e]
  exact List.getElem_mem h2
theorem own_ne {d : Kd Int} {e base g : Nat} {W : World} {v : Value} (h : d.R e W base (fun k => k ≠ g) v acc) (he : some g = v.ownBlock) : False := by
  obtain ⟨h0, _⟩ := h
  exact h0 g he.symm rfl
end
set_option maxHeartbeats 16000000 in
set_option maxRecDepth 100000 in
theorem ChansOne_calls (A0 : Option Addr) (len c0 : Nat) (w : World) (hrd : ∀ x : Int, 0 ≤ x → x < (len : Int) → ∃ ad d n a, A0 = some ad ∧ w.cell? (ad.add (x.toNat * 3)) = some (.int .i64 d) ∧ w.cell? ⟨(ad.add (x.toNat * 3)).block, (ad.add (x.toNat * 3)).off + 1, none⟩ = some (.int .i64 n) ∧ w.cell? ⟨(ad.add (x.toNat * 3)).block, (ad.add (x.toNat * 3)).off + 2, none⟩ = some (.int .i64 a)) :
    Calls Try.prog 4 #[.slice A0 len c0] w fun e w' => e = .returned (.bool true) ∧ Below w.heap.size w w' := by
  have HB := Aside0.mk (Below.refl w.heap.size w)
  have hu28 := Try.underlying28
  go_enter Try.func4, Try.ntmps4
  go_upto_region 3 with (first | (go_at_call 6; (with_reducible refine (played_calls A0 len c0 _ hrd).mono ?_); rintro e w1 ⟨g, O, A, rfl, hg, hs, hv, hb⟩; have HS := Aside0.mk hs; have HV := Aside0.mk hv; have n1_ := Aside0.mk (below_step (by repeat (first | (with_reducible first | exact HB.out | apply below_alloc | apply pw_below_drewN | apply below_drew1) | exact HB.out)) hb); clear HB hb hs hv hg; have HB := n1_; clear n1_))
  clear hrd
  go_wp2
  go_loopg [5, 6] 4 (fun kq v5 v6 w' => ∃ (x : Int) (acc : List Int), v6 = .int .i64 x ∧ Aside0 (0 ≤ x ∧ (kq : Int) + x = 4) ∧ Aside0 (Kd.R (Kd.int .i64) 3 w' w.heap.size (fun k => k ≠ g) v5 acc) ∧ Aside0 (P O A acc x) ∧ Aside0 (St w' g true O A) ∧ Aside0 (Below w.heap.size w w'))
  case atStart => exact ⟨0, [], rfl, ⟨by decide⟩, ⟨Kd.R_nil _ _ _ _ _⟩, ⟨⟨by simp, fun v hv => by cases hv⟩⟩, ⟨HS.out.block rfl⟩, ⟨by repeat (first | (with_reducible first | exact HB.out | apply below_alloc | apply pw_below_drewN | apply below_drew1) | exact HB.out)⟩⟩
  case round =>
    clear HB HS
    obtain ⟨x, acc, rfl, HI, HRW, HP, HS, HB⟩ := hrel
    cases gk with
    | zero =>
      have e4 : x = 4 := by have := HI.out; omega
      subst e4
      go_wp2_with (first | (go_at_call 7; (with_reducible refine (works_calls _).mono ?_); rintro e w2 ⟨rfl, hb⟩; have n1_ := Aside0.mk (below_step (by repeat (first | (with_reducible first | exact HB.out | apply below_alloc | apply pw_below_drewN | apply below_drew1) | exact HB.out)) hb); clear HB hb; have HB := n1_; clear n1_))
      go_ret
      exact ⟨rfl, by repeat (first | (with_reducible first | exact HB.out | apply below_alloc | apply pw_below_drewN | apply below_drew1) | exact HB.out)⟩
    | succ k1 =>
      have hi4 : x.toNat < 4 := by have := HI.out; omega
      have hb1 : decide (x < 4) = true := decide_eq_true (by have := HI.out; omega)
      have hw : wrap64 (x + 1) = x + 1 := by have := HI.out; unfold wrap64; omega
      have HW := Aside0.mk hw
      clear hw
      by_cases hO : O x.toNat = true
      · obtain ⟨a, ha⟩ : ∃ a_ : Int, a_ = A x.toNat := ⟨_, rfl⟩
        have HSEL := Aside0.mk (show selS O A x = (a, 0) by
          have e_ : askS O x 0 = 0 := by unfold askS; rw [if_neg (by have := HI.out; omega), if_neg (by omega), if_pos hO]
          unfold selS; rw [if_pos e_, ha])
        have HO := Aside0.mk hO
        have HAx := Aside0.mk ha
        clear hO ha
        by_cases hz : x = 0
        · have hz0 : (x == 0) = true := beq_iff_eq.mpr hz
          clear hz
          by_cases ca : a < 0
          · have cab : decide (a < 0) = true := decide_eq_true ca
            clear ca
            have HP2 := Aside0.mk (P_next HP.out)
            go_wp2_with (first | (go_at_call 8; (with_reducible refine (Selected_ok g O A x _ ?s1).mono ?_); (case s1 => exact HS.out.block rfl); rintro e w1 ⟨rfl, hb⟩; rw [HSEL.out]; have n0_ := Aside0.mk (HS.out.block (w' := w1) (hb.block _ HS.out.lt)); have n2_ := Aside0.mk (Kd.R_below HRW.out hb); have n1_ := Aside0.mk (below_step (by repeat (first | (with_reducible first | exact HB.out | apply below_alloc | apply pw_below_drewN | apply below_drew1) | exact HB.out)) hb); clear HB HS HRW hb; have HS := n0_; have HB := n1_; have HRW := n2_; clear n0_ n1_ n2_))
            go_roundg k1
            case measure => omega
            case rel => exact ⟨x + 1, acc, by rw [HW.out], ⟨by have := HI.out; omega⟩, ⟨by (with_reducible repeat (first | apply Kd.R_alloc | apply Kd.R_drewN | apply Kd.R_drew)); exact HRW.out⟩, HP2, ⟨HS.out.block rfl⟩, ⟨by repeat (first | (with_reducible first | exact HB.out | apply below_alloc | apply pw_below_drewN | apply below_drew1) | exact HB.out)⟩⟩
          · have cab : decide (a < 0) = false := decide_eq_false ca
            have HA0 := Aside0.mk (show 0 ≤ a by omega)
            clear ca
            have HX := Aside0.mk (show onS O A a = (x, true) by rw [on_at HV.out HA0.out hi4 HO.out HAx.out.symm, Int.toNat_of_nonneg HI.out.1])
            have HN := Aside0.mk (show ∀ v, v ∈ acc → v ≠ a from fun v hv he => P_new HV.out HP.out hi4 HO.out HAx.out HA0.out hv he)
            have HP2 := Aside0.mk (P_more HP.out HI.out.1 HO.out HAx.out)
            clear hi4
            go_upto_region 10 with (first | (go_at_call 8; (with_reducible refine (Selected_ok g O A x _ ?s1).mono ?_); (case s1 => exact HS.out.block rfl); rintro e w1 ⟨rfl, hb⟩; rw [HSEL.out]; have n0_ := Aside0.mk (HS.out.block (w' := w1) (hb.block _ HS.out.lt)); have n2_ := Aside0.mk (Kd.R_below HRW.out hb); have n1_ := Aside0.mk (below_step (by repeat (first | (with_reducible first | exact HB.out | apply below_alloc | apply pw_below_drewN | apply below_drew1) | exact HB.out)) hb); clear HB HS HRW hb; have HS := n0_; have HB := n1_; have HRW := n2_; clear n0_ n1_ n2_))
            obtain ⟨Ao, co, eo⟩ := Kd.R_slice HRW.out
            subst eo
            go_wp2
            go_loopg [9] acc.length (fun kq2 v9 w' => ∃ y : Int, v9 = .int .i64 y ∧ Aside0 (0 ≤ y ∧ (kq2 : Int) + y = acc.length) ∧ Aside0 (Kd.R (Kd.int .i64) 3 w' w.heap.size (fun k => k ≠ g) (.slice Ao acc.length co) acc) ∧ Aside0 (St w' g true O A) ∧ Aside0 (Below w.heap.size w w'))
            case atStart => exact ⟨0, rfl, ⟨by simp⟩, ⟨by (with_reducible repeat (first | apply Kd.R_alloc | apply Kd.R_drewN | apply Kd.R_drew)); exact HRW.out⟩, ⟨HS.out.block rfl⟩, ⟨by repeat (first | (with_reducible first | exact HB.out | apply below_alloc | apply pw_below_drewN | apply below_drew1) | exact HB.out)⟩⟩
            case round =>
              clear HB HS HRW
              obtain ⟨y, rfl, HJ, HRW, HS, HB⟩ := hrel
              cases gk with
              | zero =>
                have c5b : decide (y < (acc.length : Int)) = false := decide_eq_false (by have := HJ.out; omega)
                go_wp2_with (first | ((with_reducible refine gate_builtin (b := .append) (xs := #[.tmp 59, .tmp 61]) rfl ?_); at_builtin; refine Kd.R_append (Kd.int .i64) (w0 := w) w.heap.size rfl (.tmp 59) (.tmp 61) 28 3 (.int .i64 0) 8 rfl Try.underlying28 info3 rfl (by decide) (by omega) _ acc a [.int .i64 a] (fun k => k ≠ g) (fun _ => False) rfl rfl ?aP (fun _ hk => hk.elim) ?aF ?aO ?aB ?aS ?aL ?_; (case aP => exact rfl); (case aB => exact HB.out); (case aF => exact (fun k hk he => by have h_ := HS.out.lt; subst he; exact absurd h_ (Nat.not_lt.mpr hk))); (case aO => exact HRW.out); (case aS => exact (below_size HB.out)); (case aL => have := HP.out.1; have := HI.out; omega); intro v6_ w6_ ho hbb hg hat; have n0_ := Aside0.mk (HS.out.block (w' := w6_) (hg.block _ HS.out.lt (fun he => own_ne HRW.out he))); have n1_ := Aside0.mk hbb; have n2_ := Aside0.mk ho; clear HS HB HRW; have HS := n0_; have HB := n1_; have HRW := n2_; clear ho hg hbb hat n0_ n1_ n2_) | (go_at_call 9; (with_reducible refine (On_ok g O A a _ ?s2).mono ?_); (case s2 => exact HS.out.block rfl); rintro e w2 ⟨rfl, hb⟩; rw [HX.out]; have n0_ := Aside0.mk (HS.out.block (w' := w2) (hb.block _ HS.out.lt)); have n2_ := Aside0.mk (Kd.R_below HRW.out hb); have n1_ := Aside0.mk (below_step (by repeat (first | (with_reducible first | exact HB.out | apply below_alloc | apply pw_below_drewN | apply below_drew1) | exact HB.out)) hb); clear HB HS HRW hb; have HS := n0_; have HB := n1_; have HRW := n2_; clear n0_ n1_ n2_))
                go_roundg k1
                case measure => omega
                case rel => exact ⟨x + 1, acc ++ [a], by rw [HW.out], ⟨by have := HI.out; omega⟩, ⟨by (with_reducible repeat (first | apply Kd.R_alloc | apply Kd.R_drewN | apply Kd.R_drew)); exact HRW.out⟩, HP2, ⟨HS.out.block rfl⟩, ⟨by repeat (first | (with_reducible first | exact HB.out | apply below_alloc | apply pw_below_drewN | apply below_drew1) | exact HB.out)⟩⟩
              | succ k2 =>
                have p1 : 0 ≤ y := HJ.out.1
                have p2 : y < (acc.length : Int) := by have := HJ.out; omega
                have c5b : decide (y < (acc.length : Int)) = true := decide_eq_true p2
                have hne : (rd acc y == a) = false := beq_eq_false_iff_ne.mpr (HN.out _ (rd_mem p1 p2))
                have hw2 : wrap64 (y + 1) = y + 1 := by have := HJ.out; have := HP.out.1; have := HI.out; unfold wrap64; omega
                have HW2 := Aside0.mk hw2
                clear hw2
                obtain ⟨ad1, e1_, hx1⟩ := Kd.at_int (Kd.R_reads' HRW.out).2.2 y p1 p2
                cases e1_
                replace p1 := eq_true p1
                replace p2 := eq_true p2
                go_wp2
                go_roundg k2
                case measure => omega
                case rel => exact ⟨y + 1, by rw [HW2.out], ⟨by have := HJ.out; omega⟩, ⟨by (with_reducible repeat (first | apply Kd.R_alloc | apply Kd.R_drewN | apply Kd.R_drew)); exact HRW.out⟩, ⟨HS.out.block rfl⟩, ⟨by repeat (first | (with_reducible first | exact HB.out | apply below_alloc | apply pw_below_drewN | apply below_drew1) | exact HB.out)⟩⟩
        · have hz0 : (x == 0) = false := beq_eq_false_iff_ne.mpr hz
          clear hz
          by_cases ca : a < 0
          · have cab : decide (a < 0) = true := decide_eq_true ca
            clear ca
            have HP2 := Aside0.mk (P_next HP.out)
            go_wp2_with (first | (go_at_call 8; (with_reducible refine (Selected_ok g O A x _ ?s1).mono ?_); (case s1 => exact HS.out.block rfl); rintro e w1 ⟨rfl, hb⟩; rw [HSEL.out]; have n0_ := Aside0.mk (HS.out.block (w' := w1) (hb.block _ HS.out.lt)); have n2_ := Aside0.mk (Kd.R_below HRW.out hb); have n1_ := Aside0.mk (below_step (by repeat (first | (with_reducible first | exact HB.out | apply below_alloc | apply pw_below_drewN | apply below_drew1) | exact HB.out)) hb); clear HB HS HRW hb; have HS := n0_; have HB := n1_; have HRW := n2_; clear n0_ n1_ n2_))
            go_roundg k1
            case measure => omega
            case rel => exact ⟨x + 1, acc, by rw [HW.out], ⟨by have := HI.out; omega⟩, ⟨by (with_reducible repeat (first | apply Kd.R_alloc | apply Kd.R_drewN | apply Kd.R_drew)); exact HRW.out⟩, HP2, ⟨HS.out.block rfl⟩, ⟨by repeat (first | (with_reducible first | exact HB.out | apply below_alloc | apply pw_below_drewN | apply below_drew1) | exact HB.out)⟩⟩
          · have cab : decide (a < 0) = false := decide_eq_false ca
            have HA0 := Aside0.mk (show 0 ≤ a by omega)
            clear ca
            have HX := Aside0.mk (show onS O A a = (x, true) by rw [on_at HV.out HA0.out hi4 HO.out HAx.out.symm, Int.toNat_of_nonneg HI.out.1])
            have HN := Aside0.mk (show ∀ v, v ∈ acc → v ≠ a from fun v hv he => P_new HV.out HP.out hi4 HO.out HAx.out HA0.out hv he)
            have HP2 := Aside0.mk (P_more HP.out HI.out.1 HO.out HAx.out)
            clear hi4
            go_upto_region 10 with (first | (go_at_call 8; (with_reducible refine (Selected_ok g O A x _ ?s1).mono ?_); (case s1 => exact HS.out.block rfl); rintro e w1 ⟨rfl, hb⟩; rw [HSEL.out]; have n0_ := Aside0.mk (HS.out.block (w' := w1) (hb.block _ HS.out.lt)); have n2_ := Aside0.mk (Kd.R_below HRW.out hb); have n1_ := Aside0.mk (below_step (by repeat (first | (with_reducible first | exact HB.out | apply below_alloc | apply pw_below_drewN | apply below_drew1) | exact HB.out)) hb); clear HB HS HRW hb; have HS := n0_; have HB := n1_; have HRW := n2_; clear n0_ n1_ n2_))
            obtain ⟨Ao, co, eo⟩ := Kd.R_slice HRW.out
            subst eo
            go_wp2
            go_loopg [9] acc.length (fun kq2 v9 w' => ∃ y : Int, v9 = .int .i64 y ∧ Aside0 (0 ≤ y ∧ (kq2 : Int) + y = acc.length) ∧ Aside0 (Kd.R (Kd.int .i64) 3 w' w.heap.size (fun k => k ≠ g) (.slice Ao acc.length co) acc) ∧ Aside0 (St w' g true O A) ∧ Aside0 (Below w.heap.size w w'))
            case atStart => exact ⟨0, rfl, ⟨by simp⟩, ⟨by (with_reducible repeat (first | apply Kd.R_alloc | apply Kd.R_drewN | apply Kd.R_drew)); exact HRW.out⟩, ⟨HS.out.block rfl⟩, ⟨by repeat (first | (with_reducible first | exact HB.out | apply below_alloc | apply pw_below_drewN | apply below_drew1) | exact HB.out)⟩⟩
            case round =>
              clear HB HS HRW
              obtain ⟨y, rfl, HJ, HRW, HS, HB⟩ := hrel
              cases gk with
              | zero =>
                have c5b : decide (y < (acc.length : Int)) = false := decide_eq_false (by have := HJ.out; omega)
                go_wp2_with (first | ((with_reducible refine gate_builtin (b := .append) (xs := #[.tmp 59, .tmp 61]) rfl ?_); at_builtin; refine Kd.R_append (Kd.int .i64) (w0 := w) w.heap.size rfl (.tmp 59) (.tmp 61) 28 3 (.int .i64 0) 8 rfl Try.underlying28 info3 rfl (by decide) (by omega) _ acc a [.int .i64 a] (fun k => k ≠ g) (fun _ => False) rfl rfl ?aP (fun _ hk => hk.elim) ?aF ?aO ?aB ?aS ?aL ?_; (case aP => exact rfl); (case aB => exact HB.out); (case aF => exact (fun k hk he => by have h_ := HS.out.lt; subst he; exact absurd h_ (Nat.not_lt.mpr hk))); (case aO => exact HRW.out); (case aS => exact (below_size HB.out)); (case aL => have := HP.out.1; have := HI.out; omega); intro v6_ w6_ ho hbb hg hat; have n0_ := Aside0.mk (HS.out.block (w' := w6_) (hg.block _ HS.out.lt (fun he => own_ne HRW.out he))); have n1_ := Aside0.mk hbb; have n2_ := Aside0.mk ho; clear HS HB HRW; have HS := n0_; have HB := n1_; have HRW := n2_; clear ho hg hbb hat n0_ n1_ n2_) | (go_at_call 9; (with_reducible refine (On_ok g O A a _ ?s2).mono ?_); (case s2 => exact HS.out.block rfl); rintro e w2 ⟨rfl, hb⟩; rw [HX.out]; have n0_ := Aside0.mk (HS.out.block (w' := w2) (hb.block _ HS.out.lt)); have n2_ := Aside0.mk (Kd.R_below HRW.out hb); have n1_ := Aside0.mk (below_step (by repeat (first | (with_reducible first | exact HB.out | apply below_alloc | apply pw_below_drewN | apply below_drew1) | exact HB.out)) hb); clear HB HS HRW hb; have HS := n0_; have HB := n1_; have HRW := n2_; clear n0_ n1_ n2_))
                go_roundg k1
                case measure => omega
                case rel => exact ⟨x + 1, acc ++ [a], by rw [HW.out], ⟨by have := HI.out; omega⟩, ⟨by (with_reducible repeat (first | apply Kd.R_alloc | apply Kd.R_drewN | apply Kd.R_drew)); exact HRW.out⟩, HP2, ⟨HS.out.block rfl⟩, ⟨by repeat (first | (with_reducible first | exact HB.out | apply below_alloc | apply pw_below_drewN | apply below_drew1) | exact HB.out)⟩⟩
              | succ k2 =>
                have p1 : 0 ≤ y := HJ.out.1
                have p2 : y < (acc.length : Int) := by have := HJ.out; omega
                have c5b : decide (y < (acc.length : Int)) = true := decide_eq_true p2
                have hne : (rd acc y == a) = false := beq_eq_false_iff_ne.mpr (HN.out _ (rd_mem p1 p2))
                have hw2 : wrap64 (y + 1) = y + 1 := by have := HJ.out; have := HP.out.1; have := HI.out; unfold wrap64; omega
                have HW2 := Aside0.mk hw2
                clear hw2
                obtain ⟨ad1, e1_, hx1⟩ := Kd.at_int (Kd.R_reads' HRW.out).2.2 y p1 p2
                cases e1_
                replace p1 := eq_true p1
                replace p2 := eq_true p2
                go_wp2
                go_roundg k2
                case measure => omega
                case rel => exact ⟨y + 1, by rw [HW2.out], ⟨by have := HJ.out; omega⟩, ⟨by (with_reducible repeat (first | apply Kd.R_alloc | apply Kd.R_drewN | apply Kd.R_drew)); exact HRW.out⟩, ⟨HS.out.block rfl⟩, ⟨by repeat (first | (with_reducible first | exact HB.out | apply below_alloc | apply pw_below_drewN | apply below_drew1) | exact HB.out)⟩⟩
      · have hz0 : (x == 0) = false := beq_eq_false_iff_ne.mpr (fun h => hO (by rw [h]; exact HV.out.1))
        have HSEL := Aside0.mk (show selS O A x = (0, 6) by
          have e_ : askS O x 0 = 6 := by unfold askS; rw [if_neg (by have := HI.out; omega), if_neg (by omega), if_neg hO]
          unfold selS; rw [if_neg (by rw [e_]; decide), e_])
        have HP2 := Aside0.mk (P_next HP.out)
        clear hO hi4
        go_wp2_with (first | (go_at_call 8; (with_reducible refine (Selected_ok g O A x _ ?s1).mono ?_); (case s1 => exact HS.out.block rfl); rintro e w1 ⟨rfl, hb⟩; rw [HSEL.out]; have n0_ := Aside0.mk (HS.out.block (w' := w1) (hb.block _ HS.out.lt)); have n2_ := Aside0.mk (Kd.R_below HRW.out hb); have n1_ := Aside0.mk (below_step (by repeat (first | (with_reducible first | exact HB.out | apply below_alloc | apply pw_below_drewN | apply below_drew1) | exact HB.out)) hb); clear HB HS HRW hb; have HS := n0_; have HB := n1_; have HRW := n2_; clear n0_ n1_ n2_))
        go_roundg k1
        case measure => omega
        case rel => exact ⟨x + 1, acc, by rw [HW.out], ⟨by have := HI.out; omega⟩, ⟨by (with_reducible repeat (first | apply Kd.R_alloc | apply Kd.R_drewN | apply Kd.R_drew)); exact HRW.out⟩, HP2, ⟨HS.out.block rfl⟩, ⟨by repeat (first | (with_reducible first | exact HB.out | apply below_alloc | apply pw_below_drewN | apply below_drew1) | exact HB.out)⟩⟩
end Go.Proofs.YtkfaimhjdfpjhaaW.Chans
