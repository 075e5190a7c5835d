/- Of ClassFresh's texts: what the law uses. -/
import Derived.Test.YtjbpdmkalegacaaVPClassFreshx0
import Derived.Test.YtjbpdmkalegacaaVPClassFreshx5
import Derived.Test.YtjbpdmkalegacaaVPClassFreshx9
import Derived.Test.YtjbpdmkalegacaaVPClassFreshx10
namespace Go.Proofs.Ytjbpdmkalegacaa.PClassFresh
open Go.RowKit Go.Proofs.YtjbpdmkalegacaaW.PrintWords Go.Proofs.YtjbpdmkalegacaaW.PrintLast Go.Proofs.YtjbpdmkalegacaaW.PrintMore Go.Proofs.YtjbpdmkalegacaaW.Mine
attribute [local go_sem] Go.Proofs.YtjbpdmkalegacaaW.Mine.isSome_set max2_int min2_int max_two min_two max_three min_three max_four min_four   -- for this text's walks alone
set_option linter.unusedVariables false
set_option linter.unusedSimpArgs false
mutual
def garderoberef08_bytes.l0 : Nat → List Int → Int → Int → Int → List (S41) → List (S44) → List Int → List (S66) → Option (List Int)
  | 0, _, _, _, _, _, _, _, _ => none
  | k + 1, x3, x4, x427000, x427001, x427002, x427003, x427004, x427005 => if x4 < (x427005.length : Int) then (if 0 ≤ x4 then ((garderoberef04_PutSig.f k ((rd_T66 x427005 x4).f0) ((rd_T66 x427005 x4).f1.f0) ((rd_T66 x427005 x4).f1.f1)).bind fun bt435 => (if x3.length + bt435.1.length < 140737488355328 then (garderoberef08_bytes.l0 k (x3 ++ bt435.1) (wrap64 (x4 + 1)) x427000 x427001 x427002 x427003 x427004 x427005) else (none))) else (none)) else (some x3)
def garderoberef08_bytes.l1 : Nat → List Int → Int → Int → Int → List (S41) → List (S44) → List Int → List (S66) → Option (List Int)
  | 0, _, _, _, _, _, _, _, _ => none
  | k + 1, x3, x7, x427000, x427001, x427002, x427003, x427004, x427005 => if x7 < (x427002.length : Int) then (if 0 ≤ x7 then ((garderoberef08_word.f ((rd_T41 x427002 x7).f0)).bind fun t452 => (if x3.length + t452.length < 140737488355328 then ((some (x3 ++ t452 : List Int)).bind fun y455 => ((garderoberef02_PutRow.f k ((rd_T41 x427002 x7).f1) 1).bind fun bt459 => (if y455.length + bt459.1.length < 140737488355328 then (garderoberef08_bytes.l1 k (y455 ++ bt459.1) (wrap64 (x7 + 1)) x427000 x427001 x427002 x427003 x427004 x427005) else (none)))) else (none))) else (none)) else (if x3.length < 140737488355328 then (garderoberef08_bytes.l2 k (x3 ++ [((x427003.length : Int)) % 256]) 0 x427000 x427001 x427002 x427003 x427004 x427005) else (none))
def garderoberef08_bytes.l2 : Nat → List Int → Int → Int → Int → List (S41) → List (S44) → List Int → List (S66) → Option (List Int)
  | 0, _, _, _, _, _, _, _, _ => none
  | k + 1, x3, x10, x427000, x427001, x427002, x427003, x427004, x427005 => if x10 < (x427003.length : Int) then (if 0 ≤ x10 then ((garderoberef04_Put.f ((rd_T44 x427003 x10).f0) ((rd_T44 x427003 x10).f1)).bind fun bt470 => (if x3.length + bt470.1.length < 140737488355328 then (garderoberef08_bytes.l2 k (x3 ++ bt470.1) (wrap64 (x10 + 1)) x427000 x427001 x427002 x427003 x427004 x427005) else (none))) else (none)) else (if x3.length < 140737488355328 then (garderoberef08_bytes.l3 k (x3 ++ [((x427004.length : Int)) % 256]) 0 x427000 x427001 x427002 x427003 x427004 x427005) else (none))
def garderoberef08_bytes.l3 : Nat → List Int → Int → Int → Int → List (S41) → List (S44) → List Int → List (S66) → Option (List Int)
  | 0, _, _, _, _, _, _, _, _ => none
  | k + 1, x3, x13, x427000, x427001, x427002, x427003, x427004, x427005 => if x13 < (x427004.length : Int) then (if 0 ≤ x13 then ((garderoberef08_word.f (rd x427004 x13)).bind fun t481 => (if x3.length + t481.length < 140737488355328 then (garderoberef08_bytes.l3 k (x3 ++ t481) (wrap64 (x13 + 1)) x427000 x427001 x427002 x427003 x427004 x427005) else (none))) else (none)) else (some x3)
end
def garderoberef08_bytes.f (k : Nat) (a0_0 : Int) (a0_1 : Int) (l0_2 : List (S41)) (l0_3 : List (S44)) (l0_4 : List Int) (l0_5 : List (S66)) : Option (List Int) := (some (([a0_0] : List Int) : List Int)).bind fun y427 => ((garderoberef08_IsIface.f a0_0 a0_1 l0_2 l0_3 l0_4 l0_5).bind fun t430 => (if t430 = true then (if y427.length < 140737488355328 then (garderoberef08_bytes.l0 k (y427 ++ [((l0_5.length : Int)) % 256]) 0 a0_0 a0_1 l0_2 l0_3 l0_4 l0_5) else (none)) else ((garderoberef08_word.f a0_1).bind fun t442 => (if y427.length + t442.length < 140737488355328 then ((some (y427 ++ t442 : List Int)).bind fun y445 => (if y445.length < 140737488355328 then (garderoberef08_bytes.l1 k (y445 ++ [((l0_2.length : Int)) % 256]) 0 a0_0 a0_1 l0_2 l0_3 l0_4 l0_5) else (none))) else (none)))))
set_option maxHeartbeats 8000000 in
set_option maxRecDepth 100000 in
theorem garderoberef08_bytes.calls (k : Nat) (a0_0 : Int) (a0_1 : Int) (A0_2 : Option Addr) (c0_2 : Nat) (l0_2 : List (S41)) (A0_3 : Option Addr) (c0_3 : Nat) (l0_3 : List (S44)) (A0_4 : Option Addr) (c0_4 : Nat) (l0_4 : List Int) (A0_5 : Option Addr) (c0_5 : Nat) (l0_5 : List (S66)) (r : List Int) (w : World) (hr0_2 : Kd.C k41 w A0_2 l0_2.length l0_2) (hc0_2 : l0_2.length ≤ c0_2) (hr0_3 : Kd.C k44 w A0_3 l0_3.length l0_3) (hc0_3 : l0_3.length ≤ c0_3) (hr0_4 : Kd.C (Kd.int .u16) w A0_4 l0_4.length l0_4) (hc0_4 : l0_4.length ≤ c0_4) (hr0_5 : Kd.C k66 w A0_5 l0_5.length l0_5) (hc0_5 : l0_5.length ≤ c0_5) (h : garderoberef08_bytes.f k a0_0 a0_1 l0_2 l0_3 l0_4 l0_5 = some r) :
    Calls Try.prog 25 #[.agg #[.int .u8 a0_0, .int .u16 a0_1, .slice A0_2 l0_2.length c0_2, .slice A0_3 l0_3.length c0_3, .slice A0_4 l0_4.length c0_4, .slice A0_5 l0_5.length c0_5]] w fun e w' => ∃ v0_ : Value, e = .returned (v0_) ∧ Kd.R (Kd.int .u8) 5 w' w.heap.size (fun _ => True) v0_ r ∧ Below w.heap.size w w' := by
  have hu38 := Try.underlying38
  have hu66 := Try.underlying66
  have hu44 := Try.underlying44
  have HR0_2 := Aside0.mk hr0_2
  have HC0_2 := Aside0.mk hc0_2
  clear hr0_2 hc0_2
  have HR0_3 := Aside0.mk hr0_3
  have HC0_3 := Aside0.mk hc0_3
  clear hr0_3 hc0_3
  have HR0_4 := Aside0.mk hr0_4
  have HC0_4 := Aside0.mk hc0_4
  clear hr0_4 hc0_4
  have HR0_5 := Aside0.mk hr0_5
  have HC0_5 := Aside0.mk hc0_5
  clear hr0_5 hc0_5
  have HB := Aside0.mk (Below.refl w.heap.size w)
  have H : ((some (([a0_0] : List Int) : List Int)).bind fun y427 => ((garderoberef08_IsIface.f a0_0 a0_1 l0_2 l0_3 l0_4 l0_5).bind fun t430 => (if t430 = true then (if y427.length < 140737488355328 then (garderoberef08_bytes.l0 k (y427 ++ [((l0_5.length : Int)) % 256]) 0 a0_0 a0_1 l0_2 l0_3 l0_4 l0_5) else (none)) else ((garderoberef08_word.f a0_1).bind fun t442 => (if y427.length + t442.length < 140737488355328 then ((some (y427 ++ t442 : List Int)).bind fun y445 => (if y445.length < 140737488355328 then (garderoberef08_bytes.l1 k (y445 ++ [((l0_2.length : Int)) % 256]) 0 a0_0 a0_1 l0_2 l0_3 l0_4 l0_5) else (none))) else (none)))))) = some r := h
  clear h
  obtain ⟨y427, hy427⟩ : ∃ y_ : List Int, y_ = (([a0_0] : List Int)) := ⟨_, rfl⟩
  replace H : ((garderoberef08_IsIface.f a0_0 a0_1 l0_2 l0_3 l0_4 l0_5).bind fun t430 => (if t430 = true then (if y427.length < 140737488355328 then (garderoberef08_bytes.l0 k (y427 ++ [((l0_5.length : Int)) % 256]) 0 a0_0 a0_1 l0_2 l0_3 l0_4 l0_5) else (none)) else ((garderoberef08_word.f a0_1).bind fun t442 => (if y427.length + t442.length < 140737488355328 then ((some (y427 ++ t442 : List Int)).bind fun y445 => (if y445.length < 140737488355328 then (garderoberef08_bytes.l1 k (y445 ++ [((l0_2.length : Int)) % 256]) 0 a0_0 a0_1 l0_2 l0_3 l0_4 l0_5) else (none))) else (none))))) = some r := by first | (rw [hy427]; with_reducible exact H) | (have H2_ := (Option.bind_some _ _).symm.trans H; rw [hy427]; with_reducible exact H2_) | (have H2_ := (Option.bind_some _ _).symm.trans H; with_reducible exact H2_) | with_reducible exact H | (rw [hy427]; exact H) | exact H
  have Ny427 := Aside0.mk hy427
  clear hy427
  replace H := Option.bind_eq_some_iff.mp H
  obtain ⟨t430, A20, H⟩ := H
  replace H : (if t430 = true then (if y427.length < 140737488355328 then (garderoberef08_bytes.l0 k (y427 ++ [((l0_5.length : Int)) % 256]) 0 a0_0 a0_1 l0_2 l0_3 l0_4 l0_5) else (none)) else ((garderoberef08_word.f a0_1).bind fun t442 => (if y427.length + t442.length < 140737488355328 then ((some (y427 ++ t442 : List Int)).bind fun y445 => (if y445.length < 140737488355328 then (garderoberef08_bytes.l1 k (y445 ++ [((l0_2.length : Int)) % 256]) 0 a0_0 a0_1 l0_2 l0_3 l0_4 l0_5) else (none))) else (none)))) = some r := H
  have A2 := Aside0.mk A20
  clear A20
  by_cases c3 : t430 = true
  · subst c3
    have H1 : (if y427.length < 140737488355328 then (garderoberef08_bytes.l0 k (y427 ++ [((l0_5.length : Int)) % 256]) 0 a0_0 a0_1 l0_2 l0_3 l0_4 l0_5) else (none)) = some r := by rw [if_pos rfl] at H; exact H
    clear H
    have H := H1
    clear H1
    by_cases c4 : y427.length < 140737488355328
    · rw [if_pos c4] at H
      have LMc4 := Aside0.mk c4
      clear c4
      obtain ⟨y431, hy431⟩ : ∃ y_ : List Int, y_ = (y427 ++ [((l0_5.length : Int)) % 256]) := ⟨_, rfl⟩
      replace H : (garderoberef08_bytes.l0 k y431 0 a0_0 a0_1 l0_2 l0_3 l0_4 l0_5) = some r := by first | (rw [hy431]; with_reducible exact H) | (have H2_ := (Option.bind_some _ _).symm.trans H; rw [hy431]; with_reducible exact H2_) | (have H2_ := (Option.bind_some _ _).symm.trans H; with_reducible exact H2_) | with_reducible exact H | (rw [hy431]; exact H) | exact H
      have Ny431 := Aside0.mk hy431
      clear hy431
      have H' := Aside0.mk H
      clear H
      go_enter Try.func25, Try.ntmps25
      go_wp2_with (first | ((with_reducible refine gate_dst (N := 1) rfl ?_); refine zbox (N := 1) (cs := #[.int .u8 a0_0, .int .u16 a0_1, .slice A0_2 l0_2.length c0_2, .slice A0_3 l0_3.length c0_3, .slice A0_4 l0_4.length c0_4, .slice A0_5 l0_5.length c0_5]) (t := 38) ?_; intro gb426 hg w5 hbox hb; have n0_ := Aside0.mk (below_step (zb) hb); have n1_ := Aside0.mk (hbox); have n2_ := Aside0.mk ((by rw [hg]; exact (below_size (zb)) : w.heap.size ≤ gb426)); have n3_ := Aside0.mk ((by rw [hg]; exact (below_size (zb)) : w.heap.size ≤ gb426)); clear HB; have HB := n0_; have BK426 := n1_; have GW426 := n2_; have GE426 := n3_; clear n0_ n1_ n2_ n3_; clear hb hbox hg; obtain ⟨hcz6_0, hcz6_1, hcz6_2, hcz6_3, hcz6_4, hcz6_5⟩ := cells6 BK426.out; obtain ⟨hfz6_0, hfz6_1, hfz6_2, hfz6_3, hfz6_4, hfz6_5⟩ := froz6 BK426.out) | ((with_reducible refine gate_dst (N := 16) rfl ?_); refine Kd.R_lit (Kd.int .u8) _ 5 ?hg (N := 16) ?hd (xs := ([a0_0] : List Int)) (inner := [.int .u8 a0_0]) (ok := fun _ => True) (okp := fun _ => True) ?hr ?hp (fun _ hk => hk) trivial (Below.refl _ _) (Nat.le_refl _) (by simp) ?_; (case hd => rfl); (case hg => rfl); (case hr => first | (go_simp; done) | (go_simp; rfl)); (case hp => exact (Reps.one (show Kd.M (Kd.int .u8) _ _ _ a0_0 [.int .u8 a0_0] from rfl) (Reps.none _ _))); intro v428 w7 ho8 hb hg_ hnew_; clear hg_ hnew_; (first | rw [← Ny427.out] at ho8 | (simp only [Int.reduceToNat] at ho8; rw [← Ny427.out] at ho8)); have n0_ := Aside0.mk (Kd.R_lower ho8 (below_size (zb))); have n1_ := Aside0.mk (blk_below (g := gb426) (o := .cells #[.int .u8 a0_0, .int .u16 a0_1, .slice A0_2 l0_2.length c0_2, .slice A0_3 l0_3.length c0_3, .slice A0_4 l0_4.length c0_4, .slice A0_5 l0_5.length c0_5] 38 (0, 0)) zk hb); have n2_ := Aside0.mk (below_step (zb) hb); clear BK426; clear HB; have HO429 := n0_; have BK426 := n1_; have HB := n2_; clear n0_ n1_ n2_; clear hb ho8; obtain ⟨hcz9_0, hcz9_1, hcz9_2, hcz9_3, hcz9_4, hcz9_5⟩ := cells6 BK426.out; obtain ⟨hfz9_0, hfz9_1, hfz9_2, hfz9_3, hfz9_4, hfz9_5⟩ := froz6 BK426.out) | ((with_reducible refine gate_callee (f := 33) rfl ?_); refine goesL_ (some 18) rfl rfl Try.func33 (by kernel_rfl) rfl #[.agg #[.int .u8 a0_0, .int .u16 a0_1, .slice A0_2 l0_2.length c0_2, .slice A0_3 l0_3.length c0_3, .slice A0_4 l0_4.length c0_4, .slice A0_5 l0_5.length c0_5]] rfl zargs ?_; (with_reducible refine (garderoberef08_IsIface.calls a0_0 a0_1 _ _ l0_2 _ _ l0_3 _ _ l0_4 _ _ l0_5 true _ ?side1 ?side2 ?side3 ?side4 ?side5 ?side6 ?side7 ?side8 A2.out).mono ?_); (case side1 => exact zc (Kd.C_below HR0_2.out HB.out)); (case side2 => exact HC0_2.out); (case side3 => exact zc (Kd.C_below HR0_3.out HB.out)); (case side4 => exact HC0_3.out); (case side5 => exact zc (Kd.C_below HR0_4.out HB.out)); (case side6 => exact HC0_4.out); (case side7 => exact zc (Kd.C_below HR0_5.out HB.out)); (case side8 => exact HC0_5.out); rintro e w10 ⟨rfl, hb⟩; refine ⟨_, rfl, ?_⟩; have n0_ := Aside0.mk (Kd.R_below (zr HO429) hb); have n1_ := Aside0.mk (blk_below (g := gb426) (o := .cells #[.int .u8 a0_0, .int .u16 a0_1, .slice A0_2 l0_2.length c0_2, .slice A0_3 l0_3.length c0_3, .slice A0_4 l0_4.length c0_4, .slice A0_5 l0_5.length c0_5] 38 (0, 0)) zk hb); have n2_ := Aside0.mk (below_step (zb) hb); clear HO429; clear BK426; clear HB; have HO429 := n0_; have BK426 := n1_; have HB := n2_; clear n0_ n1_ n2_; (try clear hb); (try clear hb2); (try clear hk); (try clear hi); obtain ⟨hcz11_0, hcz11_1, hcz11_2, hcz11_3, hcz11_4, hcz11_5⟩ := cells6 BK426.out; obtain ⟨hfz11_0, hfz11_1, hfz11_2, hfz11_3, hfz11_4, hfz11_5⟩ := froz6 BK426.out) | ((with_reducible refine gate_builtin (b := .append) (xs := #[.tmp 19, .tmp 24]) rfl ?_); at_builtin; refine Kd.R_append (Kd.int .u8) (w0 := w) w.heap.size rfl (.tmp 19) (.tmp 24) 24 5 (.int .u8 0) 1 rfl Try.underlying24 info5 rfl (by decide) (by omega) v428 y427 (((l0_5.length : Int)) % 256) [.int .u8 (((l0_5.length : Int)) % 256)] (fun _ => True) (fun _ => False) rfl rfl ?aP (fun _ hk => hk.elim) ?aF ?aO ?aB ?aS ?aL ?_; (case aP => exact rfl); (case aB => exact (zb)); (case aF => exact (fun _ _ => trivial)); (case aO => exact (zr HO429)); (case aS => exact (below_size (zb))); (case aL => have := LMc4.out; omega); intro v432 w12 ho hb hg hat; rw [← Ny431.out] at ho; have n0_ := Aside0.mk (blk_grown (g := gb426) (o := .cells #[.int .u8 a0_0, .int .u16 a0_1, .slice A0_2 l0_2.length c0_2, .slice A0_3 l0_3.length c0_3, .slice A0_4 l0_4.length c0_4, .slice A0_5 l0_5.length c0_5] 38 (0, 0)) zk hg (Kd.R_ne HO429.out BK426.out (by decide))); have n1_ := Aside0.mk (hb); have n2_ := Aside0.mk (ho); clear BK426; clear HB; clear HO429; have BK426 := n0_; have HB := n1_; have HO433 := n2_; clear n0_ n1_ n2_; clear ho hb hg hat))
      go_loopg [3, 4] k (fun kq v3 v4 w' => ∃ (x3_1 : List Int) (x4_1 : Int), v4 = .int .i64 x4_1 ∧ Aside0 (garderoberef08_bytes.l0 kq x3_1 x4_1 a0_0 a0_1 l0_2 l0_3 l0_4 l0_5 = some r) ∧ Aside0 (kq ≤ k) ∧ Aside0 (Kd.R (Kd.int .u8) 5 w' w.heap.size (fun _ => True) v3 x3_1) ∧ Aside0 (w'.heap[gb426]? = some (.cells #[.int .u8 a0_0, .int .u16 a0_1, (.slice A0_2 l0_2.length c0_2), (.slice A0_3 l0_3.length c0_3), (.slice A0_4 l0_4.length c0_4), (.slice A0_5 l0_5.length c0_5)] 38 (0, 0))) ∧ Aside0 (Below w.heap.size w w'))
      case atStart => exact ⟨(y431), (0), zs, H', ⟨Nat.le_refl _⟩, ⟨zr HO433⟩, ⟨by (with_reducible repeat (first | refine blk_drewN ?_ _ | refine blk_drew ?_ | refine blk_alloc ?_ _)); exact BK426.out⟩, ⟨zb⟩⟩
      case round =>
        clear H'
        try clear c2
        try clear p2
        try clear c3
        try clear c4
        try clear hcz11_0
        try clear hcz11_1
        try clear hcz11_2
        try clear hcz11_3
        try clear hcz11_4
        try clear hcz11_5
        try clear hcz6_0
        try clear hcz6_1
        try clear hcz6_2
        try clear hcz6_3
        try clear hcz6_4
        try clear hcz6_5
        try clear hcz9_0
        try clear hcz9_1
        try clear hcz9_2
        try clear hcz9_3
        try clear hcz9_4
        try clear hcz9_5
        try clear hfz11_0
        try clear hfz11_1
        try clear hfz11_2
        try clear hfz11_3
        try clear hfz11_4
        try clear hfz11_5
        try clear hfz6_0
        try clear hfz6_1
        try clear hfz6_2
        try clear hfz6_3
        try clear hfz6_4
        try clear hfz6_5
        try clear hfz9_0
        try clear hfz9_1
        try clear hfz9_2
        try clear hfz9_3
        try clear hfz9_4
        try clear hfz9_5
        obtain ⟨x3_1, x4_1, rfl, HA, HK1, HO_3, BK426, HB⟩ := hrel
        cases gk with
        | zero => exact absurd HA.out (by simp [garderoberef08_bytes.l0])
        | succ k1 =>
          have H := HA.out
          clear HA
          simp only [garderoberef08_bytes.l0] at H
          by_cases c13 : x4_1 < (l0_5.length : Int)
          · rw [if_pos c13] at H
            have c13b0 : decide (x4_1 < (l0_5.length : Int)) = true := decide_eq_true c13
            clear c13
            by_cases c14 : 0 ≤ x4_1
            · rw [if_pos c14] at H
              have c14b0 : decide (0 ≤ x4_1) = true := decide_eq_true c14
              clear c14
              replace H := Option.bind_eq_some_iff.mp H
              obtain ⟨⟨t435, t438⟩, A150, H⟩ := H
              replace H : (if x3_1.length + t435.length < 140737488355328 then (garderoberef08_bytes.l0 k1 (x3_1 ++ t435) (wrap64 (x4_1 + 1)) a0_0 a0_1 l0_2 l0_3 l0_4 l0_5) else (none)) = some r := H
              have A15 := Aside0.mk A150
              clear A150
              by_cases c16 : x3_1.length + t435.length < 140737488355328
              · rw [if_pos c16] at H
                have LMc16 := Aside0.mk c16
                clear c16
                obtain ⟨y439, hy439⟩ : ∃ y_ : List Int, y_ = (x3_1 ++ t435) := ⟨_, rfl⟩
                replace H : (garderoberef08_bytes.l0 k1 y439 (wrap64 (x4_1 + 1)) a0_0 a0_1 l0_2 l0_3 l0_4 l0_5) = some r := by first | (rw [hy439]; with_reducible exact H) | (have H2_ := (Option.bind_some _ _).symm.trans H; rw [hy439]; with_reducible exact H2_) | (have H2_ := (Option.bind_some _ _).symm.trans H; with_reducible exact H2_) | with_reducible exact H | (rw [hy439]; exact H) | exact H
                have Ny439 := Aside0.mk hy439
                clear hy439
                have H' := Aside0.mk H
                clear H
                obtain ⟨hcz17_0, hcz17_1, hcz17_2, hcz17_3, hcz17_4, hcz17_5⟩ := cells6 BK426.out
                obtain ⟨hfz17_0, hfz17_1, hfz17_2, hfz17_3, hfz17_4, hfz17_5⟩ := froz6 BK426.out
                have p434 : 0 ≤ (x4_1 : Int) := of_decide_eq_true (by first | (with_reducible assumption) | assumption)
                have q434 : x4_1 < (l0_5.length : Int) := of_decide_eq_true (by first | (with_reducible assumption) | assumption)
                obtain ⟨ad434, A434_0, c434_0, e434, hx434_0, hx434_1, hx434_2, hl434_0, hi434_0⟩ := at_T66 HR0_5.out x4_1 p434 q434
                cases e434
                replace hx434_0 := (HB.out.cell (World.block_lt_of_cell? w _ hx434_0)).trans hx434_0
                replace hx434_1 := (HB.out.cell (World.block_lt_of_cell? w _ hx434_1)).trans hx434_1
                replace hx434_2 := (HB.out.cell (World.block_lt_of_cell? w _ hx434_2)).trans hx434_2
                have HR434_0 := Aside0.mk hi434_0
                have HC434_0 := Aside0.mk hl434_0
                clear hi434_0 hl434_0
                replace p434 := eq_true p434
                replace q434 := eq_true q434
                go_wp2_with (first | ((with_reducible refine gate_callee (f := 56) rfl ?_); refine goesL_ (some 39) rfl rfl Try.func56 (by kernel_rfl) rfl #[.agg #[.slice A434_0 ((rd_T66 l0_5 x4_1).f0).length c434_0, .int .u8 ((rd_T66 l0_5 x4_1).f1.f0), .int .u16 ((rd_T66 l0_5 x4_1).f1.f1)]] rfl zargs ?_; (with_reducible refine (garderoberef04_PutSig.calls k1 _ _ ((rd_T66 l0_5 x4_1).f0) ((rd_T66 l0_5 x4_1).f1.f0) ((rd_T66 l0_5 x4_1).f1.f1) t435 t438 _ ?side1 ?side2 A15.out).mono ?_); (case side1 => exact zc (Kd.C_below HR434_0.out HB.out)); (case side2 => exact HC434_0.out); rintro e w18 ⟨v436, rfl, ho0, hb⟩; refine ⟨_, rfl, ?_⟩; have n0_ := Aside0.mk (Kd.R_elder' (zr HO_3) (Kd.R_base ho0) hb); have n1_ := Aside0.mk (Kd.R_lower (Kd.R_new' ho0 (Kd.R_lt (zr HO_3))) (below_size (zb))); have n2_ := Aside0.mk (blk_below (g := gb426) (o := .cells #[.int .u8 a0_0, .int .u16 a0_1, .slice A0_2 l0_2.length c0_2, .slice A0_3 l0_3.length c0_3, .slice A0_4 l0_4.length c0_4, .slice (some ad434) l0_5.length c0_5] 38 (0, 0)) zk hb); have n3_ := Aside0.mk (below_step (zb) hb); clear HO_3; clear BK426; clear HB; have HO_3 := n0_; have HO437 := n1_; have BK426 := n2_; have HB := n3_; clear n0_ n1_ n2_ n3_; (try clear hb); (try clear hb2); (try clear hk); (try clear hi); (try clear ho0); obtain ⟨Ao20, co20, eo20⟩ := Kd.R_slice HO437.out; subst eo20) | ((with_reducible refine gate_builtin (b := .append) (xs := #[.tmp 42, .tmp 43]) rfl ?_); at_builtin; refine Kd.R_append_rows (Kd.int .u8) (w0 := w) w.heap.size rfl (.tmp 42) (.tmp 43) 24 5 (.int .u8 0) 1 rfl Try.underlying24 info5 rfl (by decide) (by omega) u3 x3_1 t435 _ _ _ (fun k_ => some k_ ≠ (.slice Ao20 t435.length co20 : Value).ownBlock) (fun _ => False) rfl rfl ?aO ?aR (fun _ _ h => h) (fun _ h => h.elim) ?aF ?aB ?aS ?aL ?_; (case aR => repeat (first | exact (Kd.R_reads' HO437.out).2.2 | (with_reducible refine Kd.C_alloc ?_ _) | (with_reducible refine Kd.C_drewN ?_ _) | (with_reducible refine Kd.C_drew ?_))); (case aB => exact (zb)); (case aF => exact (fun k_ hk => Kd.fresh' (Kd.R_lt (zr HO437)) k_ hk)); (case aO => exact (by (with_reducible repeat (first | apply Kd.R_alloc | apply Kd.R_drewN | apply Kd.R_drew)); exact Kd.R_mono HO_3.out (fun _ hk => hk.2))); (case aS => exact (below_size (zb))); (case aL => have := LMc16.out; omega); intro v440 w19 ho hb hg hat; rw [← Ny439.out] at ho; have n0_ := Aside0.mk (blk_grown (g := gb426) (o := .cells #[.int .u8 a0_0, .int .u16 a0_1, .slice A0_2 l0_2.length c0_2, .slice A0_3 l0_3.length c0_3, .slice A0_4 l0_4.length c0_4, .slice (some ad434) l0_5.length c0_5] 38 (0, 0)) zk hg (Kd.R_ne HO_3.out BK426.out (by decide))); have n1_ := Aside0.mk (Kd.R_after (ok := (fun _ => True)) (zr HO437) hg hat); have n2_ := Aside0.mk (hb); have n3_ := Aside0.mk (ho); clear BK426; clear HO437; clear HB; clear HO_3; have BK426 := n0_; have HO437 := n1_; have HB := n2_; have HO441 := n3_; clear n0_ n1_ n2_ n3_; clear ho hb hg hat))
                go_roundg k1
                case measure => have := HK1.out; omega
                case rel => exact ⟨(y439), (wrap64 (x4_1 + 1)), zs, H', ⟨by have := HK1.out; omega⟩, ⟨by (with_reducible repeat (first | apply Kd.R_alloc | apply Kd.R_drewN | apply Kd.R_drew)); exact Kd.R_mono HO441.out (fun _ hk => trivial)⟩, ⟨by (with_reducible repeat (first | refine blk_drewN ?_ _ | refine blk_drew ?_ | refine blk_alloc ?_ _)); exact BK426.out⟩, ⟨zb⟩⟩
              · rw [if_neg c16] at H
                exact absurd H (by simp)
            · rw [if_neg c14] at H
              exact absurd H (by simp)
          · rw [if_neg c13] at H
            have c13b0 : decide (x4_1 < (l0_5.length : Int)) = false := decide_eq_false c13
            clear c13
            obtain rfl := Option.some.inj H
            obtain ⟨hcz21_0, hcz21_1, hcz21_2, hcz21_3, hcz21_4, hcz21_5⟩ := cells6 BK426.out
            obtain ⟨hfz21_0, hfz21_1, hfz21_2, hfz21_3, hfz21_4, hfz21_5⟩ := froz6 BK426.out
            go_wp2
            go_ret
            exact ⟨_, ze, by (with_reducible repeat (first | apply Kd.R_alloc | apply Kd.R_drewN | apply Kd.R_drew)); exact HO_3.out, zb⟩
    · rw [if_neg c4] at H
      exact absurd H (by simp)
  · replace c3 := Bool.eq_false_iff.mpr c3
    subst c3
    have H1 : ((garderoberef08_word.f a0_1).bind fun t442 => (if y427.length + t442.length < 140737488355328 then ((some (y427 ++ t442 : List Int)).bind fun y445 => (if y445.length < 140737488355328 then (garderoberef08_bytes.l1 k (y445 ++ [((l0_2.length : Int)) % 256]) 0 a0_0 a0_1 l0_2 l0_3 l0_4 l0_5) else (none))) else (none))) = some r := by rw [if_neg (show ¬ (false = true) by decide)] at H; exact H
    clear H
    have H := H1
    clear H1
    replace H := Option.bind_eq_some_iff.mp H
    obtain ⟨t442, A220, H⟩ := H
    replace H : (if y427.length + t442.length < 140737488355328 then ((some (y427 ++ t442 : List Int)).bind fun y445 => (if y445.length < 140737488355328 then (garderoberef08_bytes.l1 k (y445 ++ [((l0_2.length : Int)) % 256]) 0 a0_0 a0_1 l0_2 l0_3 l0_4 l0_5) else (none))) else (none)) = some r := H
    have A22 := Aside0.mk A220
    clear A220
    by_cases c23 : y427.length + t442.length < 140737488355328
    · rw [if_pos c23] at H
      have LMc23 := Aside0.mk c23
      clear c23
      obtain ⟨y445, hy445⟩ : ∃ y_ : List Int, y_ = (y427 ++ t442) := ⟨_, rfl⟩
      replace H : (if y445.length < 140737488355328 then (garderoberef08_bytes.l1 k (y445 ++ [((l0_2.length : Int)) % 256]) 0 a0_0 a0_1 l0_2 l0_3 l0_4 l0_5) else (none)) = some r := by first | (rw [hy445]; with_reducible exact H) | (have H2_ := (Option.bind_some _ _).symm.trans H; rw [hy445]; with_reducible exact H2_) | (have H2_ := (Option.bind_some _ _).symm.trans H; with_reducible exact H2_) | with_reducible exact H | (rw [hy445]; exact H) | exact H
      have Ny445 := Aside0.mk hy445
      clear hy445
      by_cases c24 : y445.length < 140737488355328
      · rw [if_pos c24] at H
        have LMc24 := Aside0.mk c24
        clear c24
        obtain ⟨y448, hy448⟩ : ∃ y_ : List Int, y_ = (y445 ++ [((l0_2.length : Int)) % 256]) := ⟨_, rfl⟩
        replace H : (garderoberef08_bytes.l1 k y448 0 a0_0 a0_1 l0_2 l0_3 l0_4 l0_5) = some r := by first | (rw [hy448]; with_reducible exact H) | (have H2_ := (Option.bind_some _ _).symm.trans H; rw [hy448]; with_reducible exact H2_) | (have H2_ := (Option.bind_some _ _).symm.trans H; with_reducible exact H2_) | with_reducible exact H | (rw [hy448]; exact H) | exact H
        have Ny448 := Aside0.mk hy448
        clear hy448
        have H' := Aside0.mk H
        clear H
        go_enter Try.func25, Try.ntmps25
        go_wp2_with (first | ((with_reducible refine gate_dst (N := 1) rfl ?_); refine zbox (N := 1) (cs := #[.int .u8 a0_0, .int .u16 a0_1, .slice A0_2 l0_2.length c0_2, .slice A0_3 l0_3.length c0_3, .slice A0_4 l0_4.length c0_4, .slice A0_5 l0_5.length c0_5]) (t := 38) ?_; intro gb426 hg w25 hbox hb; have n0_ := Aside0.mk (below_step (zb) hb); have n1_ := Aside0.mk (hbox); have n2_ := Aside0.mk ((by rw [hg]; exact (below_size (zb)) : w.heap.size ≤ gb426)); have n3_ := Aside0.mk ((by rw [hg]; exact (below_size (zb)) : w.heap.size ≤ gb426)); clear HB; have HB := n0_; have BK426 := n1_; have GW426 := n2_; have GE426 := n3_; clear n0_ n1_ n2_ n3_; clear hb hbox hg; obtain ⟨hcz26_0, hcz26_1, hcz26_2, hcz26_3, hcz26_4, hcz26_5⟩ := cells6 BK426.out; obtain ⟨hfz26_0, hfz26_1, hfz26_2, hfz26_3, hfz26_4, hfz26_5⟩ := froz6 BK426.out) | ((with_reducible refine gate_dst (N := 16) rfl ?_); refine Kd.R_lit (Kd.int .u8) _ 5 ?hg (N := 16) ?hd (xs := ([a0_0] : List Int)) (inner := [.int .u8 a0_0]) (ok := fun _ => True) (okp := fun _ => True) ?hr ?hp (fun _ hk => hk) trivial (Below.refl _ _) (Nat.le_refl _) (by simp) ?_; (case hd => rfl); (case hg => rfl); (case hr => first | (go_simp; done) | (go_simp; rfl)); (case hp => exact (Reps.one (show Kd.M (Kd.int .u8) _ _ _ a0_0 [.int .u8 a0_0] from rfl) (Reps.none _ _))); intro v428 w27 ho28 hb hg_ hnew_; clear hg_ hnew_; (first | rw [← Ny427.out] at ho28 | (simp only [Int.reduceToNat] at ho28; rw [← Ny427.out] at ho28)); have n0_ := Aside0.mk (Kd.R_lower ho28 (below_size (zb))); have n1_ := Aside0.mk (blk_below (g := gb426) (o := .cells #[.int .u8 a0_0, .int .u16 a0_1, .slice A0_2 l0_2.length c0_2, .slice A0_3 l0_3.length c0_3, .slice A0_4 l0_4.length c0_4, .slice A0_5 l0_5.length c0_5] 38 (0, 0)) zk hb); have n2_ := Aside0.mk (below_step (zb) hb); clear BK426; clear HB; have HO429 := n0_; have BK426 := n1_; have HB := n2_; clear n0_ n1_ n2_; clear hb ho28; obtain ⟨hcz29_0, hcz29_1, hcz29_2, hcz29_3, hcz29_4, hcz29_5⟩ := cells6 BK426.out; obtain ⟨hfz29_0, hfz29_1, hfz29_2, hfz29_3, hfz29_4, hfz29_5⟩ := froz6 BK426.out) | ((with_reducible refine gate_callee (f := 33) rfl ?_); refine goesL_ (some 18) rfl rfl Try.func33 (by kernel_rfl) rfl #[.agg #[.int .u8 a0_0, .int .u16 a0_1, .slice A0_2 l0_2.length c0_2, .slice A0_3 l0_3.length c0_3, .slice A0_4 l0_4.length c0_4, .slice A0_5 l0_5.length c0_5]] rfl zargs ?_; (with_reducible refine (garderoberef08_IsIface.calls a0_0 a0_1 _ _ l0_2 _ _ l0_3 _ _ l0_4 _ _ l0_5 false _ ?side1 ?side2 ?side3 ?side4 ?side5 ?side6 ?side7 ?side8 A2.out).mono ?_); (case side1 => exact zc (Kd.C_below HR0_2.out HB.out)); (case side2 => exact HC0_2.out); (case side3 => exact zc (Kd.C_below HR0_3.out HB.out)); (case side4 => exact HC0_3.out); (case side5 => exact zc (Kd.C_below HR0_4.out HB.out)); (case side6 => exact HC0_4.out); (case side7 => exact zc (Kd.C_below HR0_5.out HB.out)); (case side8 => exact HC0_5.out); rintro e w30 ⟨rfl, hb⟩; refine ⟨_, rfl, ?_⟩; have n0_ := Aside0.mk (Kd.R_below (zr HO429) hb); have n1_ := Aside0.mk (blk_below (g := gb426) (o := .cells #[.int .u8 a0_0, .int .u16 a0_1, .slice A0_2 l0_2.length c0_2, .slice A0_3 l0_3.length c0_3, .slice A0_4 l0_4.length c0_4, .slice A0_5 l0_5.length c0_5] 38 (0, 0)) zk hb); have n2_ := Aside0.mk (below_step (zb) hb); clear HO429; clear BK426; clear HB; have HO429 := n0_; have BK426 := n1_; have HB := n2_; clear n0_ n1_ n2_; (try clear hb); (try clear hb2); (try clear hk); (try clear hi); obtain ⟨hcz31_0, hcz31_1, hcz31_2, hcz31_3, hcz31_4, hcz31_5⟩ := cells6 BK426.out; obtain ⟨hfz31_0, hfz31_1, hfz31_2, hfz31_3, hfz31_4, hfz31_5⟩ := froz6 BK426.out) | ((with_reducible refine gate_callee (f := 57) rfl ?_); refine goesL_ (some 49) rfl rfl Try.func57 (by kernel_rfl) rfl #[.int .u16 a0_1] rfl zargs ?_; (with_reducible refine (garderoberef08_word.calls a0_1 t442 _ A22.out).mono ?_); rintro e w32 ⟨v443, rfl, ho0, hb⟩; refine ⟨_, rfl, ?_⟩; have n0_ := Aside0.mk (Kd.R_elder' (zr HO429) (Kd.R_base ho0) hb); have n1_ := Aside0.mk (Kd.R_lower (Kd.R_new' ho0 (Kd.R_lt (zr HO429))) (below_size (zb))); have n2_ := Aside0.mk (blk_below (g := gb426) (o := .cells #[.int .u8 a0_0, .int .u16 a0_1, .slice A0_2 l0_2.length c0_2, .slice A0_3 l0_3.length c0_3, .slice A0_4 l0_4.length c0_4, .slice A0_5 l0_5.length c0_5] 38 (0, 0)) zk hb); have n3_ := Aside0.mk (below_step (zb) hb); clear HO429; clear BK426; clear HB; have HO429 := n0_; have HO444 := n1_; have BK426 := n2_; have HB := n3_; clear n0_ n1_ n2_ n3_; (try clear hb); (try clear hb2); (try clear hk); (try clear hi); (try clear ho0); obtain ⟨Ao34, co34, eo34⟩ := Kd.R_slice HO444.out; subst eo34) | ((with_reducible refine gate_builtin (b := .append) (xs := #[.tmp 46, .tmp 49]) rfl ?_); at_builtin; refine Kd.R_append_rows (Kd.int .u8) (w0 := w) w.heap.size rfl (.tmp 46) (.tmp 49) 24 5 (.int .u8 0) 1 rfl Try.underlying24 info5 rfl (by decide) (by omega) v428 y427 t442 _ _ _ (fun k_ => some k_ ≠ (.slice Ao34 t442.length co34 : Value).ownBlock) (fun _ => False) rfl rfl ?aO ?aR (fun _ _ h => h) (fun _ h => h.elim) ?aF ?aB ?aS ?aL ?_; (case aR => repeat (first | exact (Kd.R_reads' HO444.out).2.2 | (with_reducible refine Kd.C_alloc ?_ _) | (with_reducible refine Kd.C_drewN ?_ _) | (with_reducible refine Kd.C_drew ?_))); (case aB => exact (zb)); (case aF => exact (fun k_ hk => Kd.fresh' (Kd.R_lt (zr HO444)) k_ hk)); (case aO => exact (by (with_reducible repeat (first | apply Kd.R_alloc | apply Kd.R_drewN | apply Kd.R_drew)); exact Kd.R_mono HO429.out (fun _ hk => hk.2))); (case aS => exact (below_size (zb))); (case aL => have := LMc23.out; omega); intro v446 w33 ho hb hg hat; rw [← Ny445.out] at ho; have n0_ := Aside0.mk (blk_grown (g := gb426) (o := .cells #[.int .u8 a0_0, .int .u16 a0_1, .slice A0_2 l0_2.length c0_2, .slice A0_3 l0_3.length c0_3, .slice A0_4 l0_4.length c0_4, .slice A0_5 l0_5.length c0_5] 38 (0, 0)) zk hg (Kd.R_ne HO429.out BK426.out (by decide))); have n1_ := Aside0.mk (Kd.R_after (ok := (fun _ => True)) (zr HO444) hg hat); have n2_ := Aside0.mk (hb); have n3_ := Aside0.mk (ho); clear BK426; clear HO444; clear HB; clear HO429; have BK426 := n0_; have HO444 := n1_; have HB := n2_; have HO447 := n3_; clear n0_ n1_ n2_ n3_; clear ho hb hg hat; obtain ⟨hcz35_0, hcz35_1, hcz35_2, hcz35_3, hcz35_4, hcz35_5⟩ := cells6 BK426.out; obtain ⟨hfz35_0, hfz35_1, hfz35_2, hfz35_3, hfz35_4, hfz35_5⟩ := froz6 BK426.out) | ((with_reducible refine gate_builtin (b := .append) (xs := #[.tmp 51, .tmp 56]) rfl ?_); at_builtin; refine Kd.R_append (Kd.int .u8) (w0 := w) w.heap.size rfl (.tmp 51) (.tmp 56) 24 5 (.int .u8 0) 1 rfl Try.underlying24 info5 rfl (by decide) (by omega) v446 y445 (((l0_2.length : Int)) % 256) [.int .u8 (((l0_2.length : Int)) % 256)] (fun k_ => some k_ ≠ (.slice Ao34 t442.length co34 : Value).ownBlock) (fun _ => False) rfl rfl ?aP (fun _ hk => hk.elim) ?aF ?aO ?aB ?aS ?aL ?_; (case aP => exact rfl); (case aB => exact (zb)); (case aF => exact (fun k_ hk => Kd.fresh' (Kd.R_lt (zr HO444)) k_ hk)); (case aO => exact (zr HO447)); (case aS => exact (below_size (zb))); (case aL => have := LMc24.out; omega); intro v449 w36 ho hb hg hat; rw [← Ny448.out] at ho; have n0_ := Aside0.mk (blk_grown (g := gb426) (o := .cells #[.int .u8 a0_0, .int .u16 a0_1, .slice A0_2 l0_2.length c0_2, .slice A0_3 l0_3.length c0_3, .slice A0_4 l0_4.length c0_4, .slice A0_5 l0_5.length c0_5] 38 (0, 0)) zk hg (Kd.R_ne HO447.out BK426.out (by decide))); have n1_ := Aside0.mk (Kd.R_after (ok := (fun _ => True)) (zr HO444) hg hat); have n2_ := Aside0.mk (hb); have n3_ := Aside0.mk (ho); clear BK426; clear HO444; clear HB; clear HO447; have BK426 := n0_; have HO444 := n1_; have HB := n2_; have HO450 := n3_; clear n0_ n1_ n2_ n3_; clear ho hb hg hat))
        go_loopg [3, 7] k (fun kq v3 v7 w' => ∃ (x3_1 : List Int) (x7_1 : Int), v7 = .int .i64 x7_1 ∧ Aside0 (garderoberef08_bytes.l1 kq x3_1 x7_1 a0_0 a0_1 l0_2 l0_3 l0_4 l0_5 = some r) ∧ Aside0 (kq ≤ k) ∧ Aside0 (Kd.R (Kd.int .u8) 5 w' w.heap.size (fun _ => True) v3 x3_1) ∧ Aside0 (w'.heap[gb426]? = some (.cells #[.int .u8 a0_0, .int .u16 a0_1, (.slice A0_2 l0_2.length c0_2), (.slice A0_3 l0_3.length c0_3), (.slice A0_4 l0_4.length c0_4), (.slice A0_5 l0_5.length c0_5)] 38 (0, 0))) ∧ Aside0 (Below w.heap.size w w'))
        case atStart => exact ⟨(y448), (0), zs, H', ⟨Nat.le_refl _⟩, ⟨by (with_reducible repeat (first | apply Kd.R_alloc | apply Kd.R_drewN | apply Kd.R_drew)); exact Kd.R_mono HO450.out (fun _ hk => trivial)⟩, ⟨by (with_reducible repeat (first | refine blk_drewN ?_ _ | refine blk_drew ?_ | refine blk_alloc ?_ _)); exact BK426.out⟩, ⟨zb⟩⟩
        case round =>
          clear H'
          try clear c1
          try clear c2
          try clear p2
          try clear c3
          try clear c4
          try clear p4
          try clear q4
          try clear hx4
          try clear c5
          try clear p6
          try clear c13
          try clear c13b0
          try clear c14
          try clear c14b0
          try clear c16
          try clear c23
          try clear c24
          try clear c25
          try clear c33
          try clear hcz11_0
          try clear hcz11_1
          try clear hcz11_2
          try clear hcz11_3
          try clear hcz11_4
          try clear hcz11_5
          try clear hcz17_0
          try clear hcz17_1
          try clear hcz17_2
          try clear hcz17_3
          try clear hcz17_4
          try clear hcz17_5
          try clear hcz21_0
          try clear hcz21_1
          try clear hcz21_2
          try clear hcz21_3
          try clear hcz21_4
          try clear hcz21_5
          try clear hcz26_0
          try clear hcz26_1
          try clear hcz26_2
          try clear hcz26_3
          try clear hcz26_4
          try clear hcz26_5
          try clear hcz29_0
          try clear hcz29_1
          try clear hcz29_2
          try clear hcz29_3
          try clear hcz29_4
          try clear hcz29_5
          try clear hcz31_0
          try clear hcz31_1
          try clear hcz31_2
          try clear hcz31_3
          try clear hcz31_4
          try clear hcz31_5
          try clear hcz35_0
          try clear hcz35_1
          try clear hcz35_2
          try clear hcz35_3
          try clear hcz35_4
          try clear hcz35_5
          try clear hcz6_0
          try clear hcz6_1
          try clear hcz6_2
          try clear hcz6_3
          try clear hcz6_4
          try clear hcz6_5
          try clear hcz9_0
          try clear hcz9_1
          try clear hcz9_2
          try clear hcz9_3
          try clear hcz9_4
          try clear hcz9_5
          try clear hfz11_0
          try clear hfz11_1
          try clear hfz11_2
          try clear hfz11_3
          try clear hfz11_4
          try clear hfz11_5
          try clear hfz17_0
          try clear hfz17_1
          try clear hfz17_2
          try clear hfz17_3
          try clear hfz17_4
          try clear hfz17_5
          try clear hfz21_0
          try clear hfz21_1
          try clear hfz21_2
          try clear hfz21_3
          try clear hfz21_4
          try clear hfz21_5
          try clear hfz26_0
          try clear hfz26_1
          try clear hfz26_2
          try clear hfz26_3
          try clear hfz26_4
          try clear hfz26_5
          try clear hfz29_0
          try clear hfz29_1
          try clear hfz29_2
          try clear hfz29_3
          try clear hfz29_4
          try clear hfz29_5
          try clear hfz31_0
          try clear hfz31_1
          try clear hfz31_2
          try clear hfz31_3
          try clear hfz31_4
          try clear hfz31_5
          try clear hfz35_0
          try clear hfz35_1
          try clear hfz35_2
          try clear hfz35_3
          try clear hfz35_4
          try clear hfz35_5
          try clear hfz6_0
          try clear hfz6_1
          try clear hfz6_2
          try clear hfz6_3
          try clear hfz6_4
          try clear hfz6_5
          try clear hfz9_0
          try clear hfz9_1
          try clear hfz9_2
          try clear hfz9_3
          try clear hfz9_4
          try clear hfz9_5
          try clear hx434_0
          try clear hx434_1
          try clear hx434_2
          try clear p2
          try clear p434
          try clear q434
          obtain ⟨x3_1, x7_1, rfl, HA, HK1, HO_3, BK426, HB⟩ := hrel
          cases gk with
          | zero => exact absurd HA.out (by simp [garderoberef08_bytes.l1])
          | succ k1 =>
            have H := HA.out
            clear HA
            simp only [garderoberef08_bytes.l1] at H
            by_cases c37 : x7_1 < (l0_2.length : Int)
            · rw [if_pos c37] at H
              have c37b0 : decide (x7_1 < (l0_2.length : Int)) = true := decide_eq_true c37
              clear c37
              by_cases c38 : 0 ≤ x7_1
              · rw [if_pos c38] at H
                have c38b0 : decide (0 ≤ x7_1) = true := decide_eq_true c38
                clear c38
                replace H := Option.bind_eq_some_iff.mp H
                obtain ⟨t452, A390, H⟩ := H
                replace H : (if x3_1.length + t452.length < 140737488355328 then ((some (x3_1 ++ t452 : List Int)).bind fun y455 => ((garderoberef02_PutRow.f k1 ((rd_T41 l0_2 x7_1).f1) 1).bind fun bt459 => (if y455.length + bt459.1.length < 140737488355328 then (garderoberef08_bytes.l1 k1 (y455 ++ bt459.1) (wrap64 (x7_1 + 1)) a0_0 a0_1 l0_2 l0_3 l0_4 l0_5) else (none)))) else (none)) = some r := H
                have A39 := Aside0.mk A390
                clear A390
                by_cases c40 : x3_1.length + t452.length < 140737488355328
                · rw [if_pos c40] at H
                  have LMc40 := Aside0.mk c40
                  clear c40
                  obtain ⟨y455, hy455⟩ : ∃ y_ : List Int, y_ = (x3_1 ++ t452) := ⟨_, rfl⟩
                  replace H : ((garderoberef02_PutRow.f k1 ((rd_T41 l0_2 x7_1).f1) 1).bind fun bt459 => (if y455.length + bt459.1.length < 140737488355328 then (garderoberef08_bytes.l1 k1 (y455 ++ bt459.1) (wrap64 (x7_1 + 1)) a0_0 a0_1 l0_2 l0_3 l0_4 l0_5) else (none))) = some r := by first | (rw [hy455]; with_reducible exact H) | (have H2_ := (Option.bind_some _ _).symm.trans H; rw [hy455]; with_reducible exact H2_) | (have H2_ := (Option.bind_some _ _).symm.trans H; with_reducible exact H2_) | with_reducible exact H | (rw [hy455]; exact H) | exact H
                  have Ny455 := Aside0.mk hy455
                  clear hy455
                  replace H := Option.bind_eq_some_iff.mp H
                  obtain ⟨⟨t459, t460⟩, A410, H⟩ := H
                  replace H : (if y455.length + t459.length < 140737488355328 then (garderoberef08_bytes.l1 k1 (y455 ++ t459) (wrap64 (x7_1 + 1)) a0_0 a0_1 l0_2 l0_3 l0_4 l0_5) else (none)) = some r := H
                  have A41 := Aside0.mk A410
                  clear A410
                  by_cases c42 : y455.length + t459.length < 140737488355328
                  · rw [if_pos c42] at H
                    have LMc42 := Aside0.mk c42
                    clear c42
                    obtain ⟨y463, hy463⟩ : ∃ y_ : List Int, y_ = (y455 ++ t459) := ⟨_, rfl⟩
                    replace H : (garderoberef08_bytes.l1 k1 y463 (wrap64 (x7_1 + 1)) a0_0 a0_1 l0_2 l0_3 l0_4 l0_5) = some r := by first | (rw [hy463]; with_reducible exact H) | (have H2_ := (Option.bind_some _ _).symm.trans H; rw [hy463]; with_reducible exact H2_) | (have H2_ := (Option.bind_some _ _).symm.trans H; with_reducible exact H2_) | with_reducible exact H | (rw [hy463]; exact H) | exact H
                    have Ny463 := Aside0.mk hy463
                    clear hy463
                    have H' := Aside0.mk H
                    clear H
                    obtain ⟨hcz43_0, hcz43_1, hcz43_2, hcz43_3, hcz43_4, hcz43_5⟩ := cells6 BK426.out
                    obtain ⟨hfz43_0, hfz43_1, hfz43_2, hfz43_3, hfz43_4, hfz43_5⟩ := froz6 BK426.out
                    have p451 : 0 ≤ (x7_1 : Int) := of_decide_eq_true (by first | (with_reducible assumption) | assumption)
                    have q451 : x7_1 < (l0_2.length : Int) := of_decide_eq_true (by first | (with_reducible assumption) | assumption)
                    obtain ⟨ad451, A451_1, c451_1, e451, hx451_0, hx451_1, hl451_1, hi451_1⟩ := at_T41 HR0_2.out x7_1 p451 q451
                    cases e451
                    replace hx451_0 := (HB.out.cell (World.block_lt_of_cell? w _ hx451_0)).trans hx451_0
                    replace hx451_1 := (HB.out.cell (World.block_lt_of_cell? w _ hx451_1)).trans hx451_1
                    have HR451_1 := Aside0.mk hi451_1
                    have HC451_1 := Aside0.mk hl451_1
                    clear hi451_1 hl451_1
                    replace p451 := eq_true p451
                    replace q451 := eq_true q451
                    go_wp2_with (first | ((with_reducible refine gate_callee (f := 57) rfl ?_); refine goesL_ (some 72) rfl rfl Try.func57 (by kernel_rfl) rfl #[.int .u16 ((rd_T41 l0_2 x7_1).f0)] rfl zargs ?_; (with_reducible refine (garderoberef08_word.calls ((rd_T41 l0_2 x7_1).f0) t452 _ A39.out).mono ?_); rintro e w44 ⟨v453, rfl, ho0, hb⟩; refine ⟨_, rfl, ?_⟩; have n0_ := Aside0.mk (Kd.R_elder' (zr HO_3) (Kd.R_base ho0) hb); have n1_ := Aside0.mk (Kd.R_lower (Kd.R_new' ho0 (Kd.R_lt (zr HO_3))) (below_size (zb))); have n2_ := Aside0.mk (blk_below (g := gb426) (o := .cells #[.int .u8 a0_0, .int .u16 a0_1, .slice (some ad451) l0_2.length c0_2, .slice A0_3 l0_3.length c0_3, .slice A0_4 l0_4.length c0_4, .slice A0_5 l0_5.length c0_5] 38 (0, 0)) zk hb); have n3_ := Aside0.mk (below_step (zb) hb); clear HO_3; clear BK426; clear HB; have HO_3 := n0_; have HO454 := n1_; have BK426 := n2_; have HB := n3_; clear n0_ n1_ n2_ n3_; (try clear hb); (try clear hb2); (try clear hk); (try clear hi); (try clear ho0); obtain ⟨Ao46, co46, eo46⟩ := Kd.R_slice HO454.out; subst eo46) | ((with_reducible refine gate_builtin (b := .append) (xs := #[.tmp 65, .tmp 72]) rfl ?_); at_builtin; refine Kd.R_append_rows (Kd.int .u8) (w0 := w) w.heap.size rfl (.tmp 65) (.tmp 72) 24 5 (.int .u8 0) 1 rfl Try.underlying24 info5 rfl (by decide) (by omega) u3 x3_1 t452 _ _ _ (fun k_ => some k_ ≠ (.slice Ao46 t452.length co46 : Value).ownBlock) (fun _ => False) rfl rfl ?aO ?aR (fun _ _ h => h) (fun _ h => h.elim) ?aF ?aB ?aS ?aL ?_; (case aR => repeat (first | exact (Kd.R_reads' HO454.out).2.2 | (with_reducible refine Kd.C_alloc ?_ _) | (with_reducible refine Kd.C_drewN ?_ _) | (with_reducible refine Kd.C_drew ?_))); (case aB => exact (zb)); (case aF => exact (fun k_ hk => Kd.fresh' (Kd.R_lt (zr HO454)) k_ hk)); (case aO => exact (by (with_reducible repeat (first | apply Kd.R_alloc | apply Kd.R_drewN | apply Kd.R_drew)); exact Kd.R_mono HO_3.out (fun _ hk => hk.2))); (case aS => exact (below_size (zb))); (case aL => have := LMc40.out; omega); intro v456 w45 ho hb hg hat; rw [← Ny455.out] at ho; have n0_ := Aside0.mk (blk_grown (g := gb426) (o := .cells #[.int .u8 a0_0, .int .u16 a0_1, .slice (some ad451) l0_2.length c0_2, .slice A0_3 l0_3.length c0_3, .slice A0_4 l0_4.length c0_4, .slice A0_5 l0_5.length c0_5] 38 (0, 0)) zk hg (Kd.R_ne HO_3.out BK426.out (by decide))); have n1_ := Aside0.mk (Kd.R_after (ok := (fun _ => True)) (zr HO454) hg hat); have n2_ := Aside0.mk (hb); have n3_ := Aside0.mk (ho); clear BK426; clear HO454; clear HB; clear HO_3; have BK426 := n0_; have HO454 := n1_; have HB := n2_; have HO457 := n3_; clear n0_ n1_ n2_ n3_; clear ho hb hg hat; obtain ⟨hcz47_0, hcz47_1, hcz47_2, hcz47_3, hcz47_4, hcz47_5⟩ := cells6 BK426.out; obtain ⟨hfz47_0, hfz47_1, hfz47_2, hfz47_3, hfz47_4, hfz47_5⟩ := froz6 BK426.out; have p458 : 0 ≤ (x7_1 : Int) := of_decide_eq_true (by first | (with_reducible assumption) | assumption); have q458 : x7_1 < (l0_2.length : Int) := of_decide_eq_true (by first | (with_reducible assumption) | assumption); obtain ⟨ad458, A458_1, c458_1, e458, hx458_0, hx458_1, hl458_1, hi458_1⟩ := at_T41 HR0_2.out x7_1 p458 q458; obtain rfl : ad451 = ad458 := (by injection e458); replace hx458_0 := (HB.out.cell (World.block_lt_of_cell? w _ hx458_0)).trans hx458_0; replace hx458_1 := (HB.out.cell (World.block_lt_of_cell? w _ hx458_1)).trans hx458_1; have HR458_1 := Aside0.mk hi458_1; have HC458_1 := Aside0.mk hl458_1; clear hi458_1 hl458_1; replace p458 := eq_true p458; replace q458 := eq_true q458) | ((with_reducible refine gate_callee (f := 58) rfl ?_); refine goesL_ (some 81) rfl rfl Try.func58 (by kernel_rfl) rfl #[.slice A458_1 ((rd_T41 l0_2 x7_1).f1).length c458_1, .int .i64 1] rfl zargs ?_; (with_reducible refine (garderoberef02_PutRow.calls k1 _ _ ((rd_T41 l0_2 x7_1).f1) 1 t459 t460 _ ?side1 ?side2 A41.out).mono ?_); (case side1 => exact zc (Kd.C_below HR458_1.out HB.out)); (case side2 => exact HC458_1.out); rintro e w48 ⟨v461, rfl, ho0, hb⟩; refine ⟨_, rfl, ?_⟩; have n0_ := Aside0.mk (Kd.R_elder' (zr HO454) (Kd.R_base ho0) hb); have n1_ := Aside0.mk (Kd.R_elder' (zr HO457) (Kd.R_base ho0) hb); have n2_ := Aside0.mk (Kd.R_lower (Kd.R_new' (Kd.R_new' ho0 (Kd.R_lt (zr HO454))) (Kd.R_lt (zr HO457))) (below_size (zb))); have n3_ := Aside0.mk (blk_below (g := gb426) (o := .cells #[.int .u8 a0_0, .int .u16 a0_1, .slice (some ad451) l0_2.length c0_2, .slice A0_3 l0_3.length c0_3, .slice A0_4 l0_4.length c0_4, .slice A0_5 l0_5.length c0_5] 38 (0, 0)) zk hb); have n4_ := Aside0.mk (below_step (zb) hb); clear HO454; clear HO457; clear BK426; clear HB; have HO454 := n0_; have HO457 := n1_; have HO462 := n2_; have BK426 := n3_; have HB := n4_; clear n0_ n1_ n2_ n3_ n4_; (try clear hb); (try clear hb2); (try clear hk); (try clear hi); (try clear ho0); obtain ⟨Ao50, co50, eo50⟩ := Kd.R_slice HO462.out; subst eo50) | ((with_reducible refine gate_builtin (b := .append) (xs := #[.tmp 84, .tmp 85]) rfl ?_); at_builtin; refine Kd.R_append_rows (Kd.int .u8) (w0 := w) w.heap.size rfl (.tmp 84) (.tmp 85) 24 5 (.int .u8 0) 1 rfl Try.underlying24 info5 rfl (by decide) (by omega) v456 y455 t459 _ _ _ (fun k_ => some k_ ≠ (.slice Ao46 t452.length co46 : Value).ownBlock ∧ some k_ ≠ (.slice Ao50 t459.length co50 : Value).ownBlock) (fun _ => False) rfl rfl ?aO ?aR (fun _ _ h => h) (fun _ h => h.elim) ?aF ?aB ?aS ?aL ?_; (case aR => repeat (first | exact (Kd.R_reads' HO462.out).2.2 | (with_reducible refine Kd.C_alloc ?_ _) | (with_reducible refine Kd.C_drewN ?_ _) | (with_reducible refine Kd.C_drew ?_))); (case aB => exact (zb)); (case aF => exact (fun k_ hk => ⟨Kd.fresh' (Kd.R_lt (zr HO454)) k_ hk, Kd.fresh' (Kd.R_lt (zr HO462)) k_ hk⟩)); (case aO => exact (zr HO457)); (case aS => exact (below_size (zb))); (case aL => have := LMc42.out; omega); intro v464 w49 ho hb hg hat; rw [← Ny463.out] at ho; have n0_ := Aside0.mk (blk_grown (g := gb426) (o := .cells #[.int .u8 a0_0, .int .u16 a0_1, .slice (some ad451) l0_2.length c0_2, .slice A0_3 l0_3.length c0_3, .slice A0_4 l0_4.length c0_4, .slice A0_5 l0_5.length c0_5] 38 (0, 0)) zk hg (Kd.R_ne HO457.out BK426.out (by decide))); have n1_ := Aside0.mk (Kd.R_after (ok := (fun k_ => some k_ ≠ (.slice Ao50 t459.length co50 : Value).ownBlock)) (by (with_reducible repeat (first | apply Kd.R_alloc | apply Kd.R_drewN | apply Kd.R_drew)); exact Kd.R_mono HO454.out (fun _ hk => ⟨hk.2, hk.1.2⟩)) hg hat); have n2_ := Aside0.mk (Kd.R_after (ok := (fun k_ => some k_ ≠ (.slice Ao46 t452.length co46 : Value).ownBlock)) (by (with_reducible repeat (first | apply Kd.R_alloc | apply Kd.R_drewN | apply Kd.R_drew)); exact Kd.R_mono HO462.out (fun _ hk => ⟨hk.1.2, hk.2⟩)) hg hat); have n3_ := Aside0.mk (hb); have n4_ := Aside0.mk (ho); clear BK426; clear HO454; clear HO462; clear HB; clear HO457; have BK426 := n0_; have HO454 := n1_; have HO462 := n2_; have HB := n3_; have HO465 := n4_; clear n0_ n1_ n2_ n3_ n4_; clear ho hb hg hat))
                    go_roundg k1
                    case measure => have := HK1.out; omega
                    case rel => exact ⟨(y463), (wrap64 (x7_1 + 1)), zs, H', ⟨by have := HK1.out; omega⟩, ⟨by (with_reducible repeat (first | apply Kd.R_alloc | apply Kd.R_drewN | apply Kd.R_drew)); exact Kd.R_mono HO465.out (fun _ hk => trivial)⟩, ⟨by (with_reducible repeat (first | refine blk_drewN ?_ _ | refine blk_drew ?_ | refine blk_alloc ?_ _)); exact BK426.out⟩, ⟨zb⟩⟩
                  · rw [if_neg c42] at H
                    exact absurd H (by simp)
                · rw [if_neg c40] at H
                  exact absurd H (by simp)
              · rw [if_neg c38] at H
                exact absurd H (by simp)
            · rw [if_neg c37] at H
              have c37b0 : decide (x7_1 < (l0_2.length : Int)) = false := decide_eq_false c37
              clear c37
              by_cases c51 : x3_1.length < 140737488355328
              · rw [if_pos c51] at H
                have LMc51 := Aside0.mk c51
                clear c51
                obtain ⟨y466, hy466⟩ : ∃ y_ : List Int, y_ = (x3_1 ++ [((l0_3.length : Int)) % 256]) := ⟨_, rfl⟩
                replace H : (garderoberef08_bytes.l2 k1 y466 0 a0_0 a0_1 l0_2 l0_3 l0_4 l0_5) = some r := by first | (rw [hy466]; with_reducible exact H) | (have H2_ := (Option.bind_some _ _).symm.trans H; rw [hy466]; with_reducible exact H2_) | (have H2_ := (Option.bind_some _ _).symm.trans H; with_reducible exact H2_) | with_reducible exact H | (rw [hy466]; exact H) | exact H
                have Ny466 := Aside0.mk hy466
                clear hy466
                have H' := Aside0.mk H
                clear H
                obtain ⟨hcz52_0, hcz52_1, hcz52_2, hcz52_3, hcz52_4, hcz52_5⟩ := cells6 BK426.out
                obtain ⟨hfz52_0, hfz52_1, hfz52_2, hfz52_3, hfz52_4, hfz52_5⟩ := froz6 BK426.out
                go_wp2_with (first | ((with_reducible refine gate_builtin (b := .append) (xs := #[.tmp 87, .tmp 92]) rfl ?_); at_builtin; refine Kd.R_append (Kd.int .u8) (w0 := w) w.heap.size rfl (.tmp 87) (.tmp 92) 24 5 (.int .u8 0) 1 rfl Try.underlying24 info5 rfl (by decide) (by omega) u3 x3_1 (((l0_3.length : Int)) % 256) [.int .u8 (((l0_3.length : Int)) % 256)] (fun _ => True) (fun _ => False) rfl rfl ?aP (fun _ hk => hk.elim) ?aF ?aO ?aB ?aS ?aL ?_; (case aP => exact rfl); (case aB => exact (zb)); (case aF => exact (fun _ _ => trivial)); (case aO => exact (zr HO_3)); (case aS => exact (below_size (zb))); (case aL => have := LMc51.out; omega); intro v467 w53 ho hb hg hat; rw [← Ny466.out] at ho; have n0_ := Aside0.mk (blk_grown (g := gb426) (o := .cells #[.int .u8 a0_0, .int .u16 a0_1, .slice A0_2 l0_2.length c0_2, .slice A0_3 l0_3.length c0_3, .slice A0_4 l0_4.length c0_4, .slice A0_5 l0_5.length c0_5] 38 (0, 0)) zk hg (Kd.R_ne HO_3.out BK426.out (by decide))); have n1_ := Aside0.mk (hb); have n2_ := Aside0.mk (ho); clear BK426; clear HB; clear HO_3; have BK426 := n0_; have HB := n1_; have HO468 := n2_; clear n0_ n1_ n2_; clear ho hb hg hat))
                go_loopg [3, 10] k1 (fun kq v3 v10 w' => ∃ (x3_2 : List Int) (x10_2 : Int), v10 = .int .i64 x10_2 ∧ Aside0 (garderoberef08_bytes.l2 kq x3_2 x10_2 a0_0 a0_1 l0_2 l0_3 l0_4 l0_5 = some r) ∧ Aside0 (kq ≤ k1) ∧ Aside0 (Kd.R (Kd.int .u8) 5 w' w.heap.size (fun _ => True) v3 x3_2) ∧ Aside0 (w'.heap[gb426]? = some (.cells #[.int .u8 a0_0, .int .u16 a0_1, (.slice A0_2 l0_2.length c0_2), (.slice A0_3 l0_3.length c0_3), (.slice A0_4 l0_4.length c0_4), (.slice A0_5 l0_5.length c0_5)] 38 (0, 0))) ∧ Aside0 (Below w.heap.size w w'))
                case atStart => exact ⟨(y466), (0), zs, H', ⟨Nat.le_refl _⟩, ⟨zr HO468⟩, ⟨by (with_reducible repeat (first | refine blk_drewN ?_ _ | refine blk_drew ?_ | refine blk_alloc ?_ _)); exact BK426.out⟩, ⟨zb⟩⟩
                case round =>
                  clear H'
                  try clear c1
                  try clear c2
                  try clear p2
                  try clear c3
                  try clear c4
                  try clear p4
                  try clear q4
                  try clear hx4
                  try clear c5
                  try clear p6
                  try clear c13
                  try clear c13b0
                  try clear c14
                  try clear c14b0
                  try clear c16
                  try clear c23
                  try clear c24
                  try clear c25
                  try clear c33
                  try clear c37
                  try clear c37b0
                  try clear c38
                  try clear c38b0
                  try clear c40
                  try clear c42
                  try clear c43
                  try clear p43
                  try clear q43
                  try clear hx43
                  try clear c45
                  try clear p45
                  try clear q45
                  try clear hx45
                  try clear c51
                  try clear hcz11_0
                  try clear hcz11_1
                  try clear hcz11_2
                  try clear hcz11_3
                  try clear hcz11_4
                  try clear hcz11_5
                  try clear hcz17_0
                  try clear hcz17_1
                  try clear hcz17_2
                  try clear hcz17_3
                  try clear hcz17_4
                  try clear hcz17_5
                  try clear hcz21_0
                  try clear hcz21_1
                  try clear hcz21_2
                  try clear hcz21_3
                  try clear hcz21_4
                  try clear hcz21_5
                  try clear hcz26_0
                  try clear hcz26_1
                  try clear hcz26_2
                  try clear hcz26_3
                  try clear hcz26_4
                  try clear hcz26_5
                  try clear hcz29_0
                  try clear hcz29_1
                  try clear hcz29_2
                  try clear hcz29_3
                  try clear hcz29_4
                  try clear hcz29_5
                  try clear hcz31_0
                  try clear hcz31_1
                  try clear hcz31_2
                  try clear hcz31_3
                  try clear hcz31_4
                  try clear hcz31_5
                  try clear hcz35_0
                  try clear hcz35_1
                  try clear hcz35_2
                  try clear hcz35_3
                  try clear hcz35_4
                  try clear hcz35_5
                  try clear hcz43_0
                  try clear hcz43_1
                  try clear hcz43_2
                  try clear hcz43_3
                  try clear hcz43_4
                  try clear hcz43_5
                  try clear hcz47_0
                  try clear hcz47_1
                  try clear hcz47_2
                  try clear hcz47_3
                  try clear hcz47_4
                  try clear hcz47_5
                  try clear hcz52_0
                  try clear hcz52_1
                  try clear hcz52_2
                  try clear hcz52_3
                  try clear hcz52_4
                  try clear hcz52_5
                  try clear hcz6_0
                  try clear hcz6_1
                  try clear hcz6_2
                  try clear hcz6_3
                  try clear hcz6_4
                  try clear hcz6_5
                  try clear hcz9_0
                  try clear hcz9_1
                  try clear hcz9_2
                  try clear hcz9_3
                  try clear hcz9_4
                  try clear hcz9_5
                  try clear hfz11_0
                  try clear hfz11_1
                  try clear hfz11_2
                  try clear hfz11_3
                  try clear hfz11_4
                  try clear hfz11_5
                  try clear hfz17_0
                  try clear hfz17_1
                  try clear hfz17_2
                  try clear hfz17_3
                  try clear hfz17_4
                  try clear hfz17_5
                  try clear hfz21_0
                  try clear hfz21_1
                  try clear hfz21_2
                  try clear hfz21_3
                  try clear hfz21_4
                  try clear hfz21_5
                  try clear hfz26_0
                  try clear hfz26_1
                  try clear hfz26_2
                  try clear hfz26_3
                  try clear hfz26_4
                  try clear hfz26_5
                  try clear hfz29_0
                  try clear hfz29_1
                  try clear hfz29_2
                  try clear hfz29_3
                  try clear hfz29_4
                  try clear hfz29_5
                  try clear hfz31_0
                  try clear hfz31_1
                  try clear hfz31_2
                  try clear hfz31_3
                  try clear hfz31_4
                  try clear hfz31_5
                  try clear hfz35_0
                  try clear hfz35_1
                  try clear hfz35_2
                  try clear hfz35_3
                  try clear hfz35_4
                  try clear hfz35_5
                  try clear hfz43_0
                  try clear hfz43_1
                  try clear hfz43_2
                  try clear hfz43_3
                  try clear hfz43_4
                  try clear hfz43_5
                  try clear hfz47_0
                  try clear hfz47_1
                  try clear hfz47_2
                  try clear hfz47_3
                  try clear hfz47_4
                  try clear hfz47_5
                  try clear hfz52_0
                  try clear hfz52_1
                  try clear hfz52_2
                  try clear hfz52_3
                  try clear hfz52_4
                  try clear hfz52_5
                  try clear hfz6_0
                  try clear hfz6_1
                  try clear hfz6_2
                  try clear hfz6_3
                  try clear hfz6_4
                  try clear hfz6_5
                  try clear hfz9_0
                  try clear hfz9_1
                  try clear hfz9_2
                  try clear hfz9_3
                  try clear hfz9_4
                  try clear hfz9_5
                  try clear hx434_0
                  try clear hx434_1
                  try clear hx434_2
                  try clear hx451_0
                  try clear hx451_1
                  try clear hx458_0
                  try clear hx458_1
                  try clear p2
                  try clear p4
                  try clear p434
                  try clear p451
                  try clear p458
                  try clear p6
                  try clear q4
                  try clear q434
                  try clear q451
                  try clear q458
                  obtain ⟨x3_2, x10_2, rfl, HA, HK2, HO_3, BK426, HB⟩ := hrel
                  cases gk with
                  | zero => exact absurd HA.out (by simp [garderoberef08_bytes.l2])
                  | succ k2 =>
                    have H := HA.out
                    clear HA
                    simp only [garderoberef08_bytes.l2] at H
                    by_cases c54 : x10_2 < (l0_3.length : Int)
                    · rw [if_pos c54] at H
                      have c54b0 : decide (x10_2 < (l0_3.length : Int)) = true := decide_eq_true c54
                      clear c54
                      by_cases c55 : 0 ≤ x10_2
                      · rw [if_pos c55] at H
                        have c55b0 : decide (0 ≤ x10_2) = true := decide_eq_true c55
                        clear c55
                        replace H := Option.bind_eq_some_iff.mp H
                        obtain ⟨⟨t470, t473⟩, A560, H⟩ := H
                        replace H : (if x3_2.length + t470.length < 140737488355328 then (garderoberef08_bytes.l2 k2 (x3_2 ++ t470) (wrap64 (x10_2 + 1)) a0_0 a0_1 l0_2 l0_3 l0_4 l0_5) else (none)) = some r := H
                        have A56 := Aside0.mk A560
                        clear A560
                        by_cases c57 : x3_2.length + t470.length < 140737488355328
                        · rw [if_pos c57] at H
                          have LMc57 := Aside0.mk c57
                          clear c57
                          obtain ⟨y474, hy474⟩ : ∃ y_ : List Int, y_ = (x3_2 ++ t470) := ⟨_, rfl⟩
                          replace H : (garderoberef08_bytes.l2 k2 y474 (wrap64 (x10_2 + 1)) a0_0 a0_1 l0_2 l0_3 l0_4 l0_5) = some r := by first | (rw [hy474]; with_reducible exact H) | (have H2_ := (Option.bind_some _ _).symm.trans H; rw [hy474]; with_reducible exact H2_) | (have H2_ := (Option.bind_some _ _).symm.trans H; with_reducible exact H2_) | with_reducible exact H | (rw [hy474]; exact H) | exact H
                          have Ny474 := Aside0.mk hy474
                          clear hy474
                          have H' := Aside0.mk H
                          clear H
                          obtain ⟨hcz58_0, hcz58_1, hcz58_2, hcz58_3, hcz58_4, hcz58_5⟩ := cells6 BK426.out
                          obtain ⟨hfz58_0, hfz58_1, hfz58_2, hfz58_3, hfz58_4, hfz58_5⟩ := froz6 BK426.out
                          have p469 : 0 ≤ (x10_2 : Int) := of_decide_eq_true (by first | (with_reducible assumption) | assumption)
                          have q469 : x10_2 < (l0_3.length : Int) := of_decide_eq_true (by first | (with_reducible assumption) | assumption)
                          obtain ⟨ad469, e469, hx469_0, hx469_1⟩ := at_T44 HR0_3.out x10_2 p469 q469
                          cases e469
                          replace hx469_0 := (HB.out.cell (World.block_lt_of_cell? w _ hx469_0)).trans hx469_0
                          replace hx469_1 := (HB.out.cell (World.block_lt_of_cell? w _ hx469_1)).trans hx469_1
                          replace p469 := eq_true p469
                          replace q469 := eq_true q469
                          go_wp2_with (first | ((with_reducible refine gate_callee (f := 59) rfl ?_); refine goesL_ (some 107) rfl rfl Try.func59 (by kernel_rfl) rfl #[.agg #[.int .u8 ((rd_T44 l0_3 x10_2).f0), .int .u16 ((rd_T44 l0_3 x10_2).f1)]] rfl zargs ?_; (with_reducible refine (garderoberef04_Put.calls ((rd_T44 l0_3 x10_2).f0) ((rd_T44 l0_3 x10_2).f1) t470 t473 _ A56.out).mono ?_); rintro e w59 ⟨v471, rfl, ho0, hb⟩; refine ⟨_, rfl, ?_⟩; have n0_ := Aside0.mk (Kd.R_elder' (zr HO_3) (Kd.R_base ho0) hb); have n1_ := Aside0.mk (Kd.R_lower (Kd.R_new' ho0 (Kd.R_lt (zr HO_3))) (below_size (zb))); have n2_ := Aside0.mk (blk_below (g := gb426) (o := .cells #[.int .u8 a0_0, .int .u16 a0_1, .slice A0_2 l0_2.length c0_2, .slice (some ad469) l0_3.length c0_3, .slice A0_4 l0_4.length c0_4, .slice A0_5 l0_5.length c0_5] 38 (0, 0)) zk hb); have n3_ := Aside0.mk (below_step (zb) hb); clear HO_3; clear BK426; clear HB; have HO_3 := n0_; have HO472 := n1_; have BK426 := n2_; have HB := n3_; clear n0_ n1_ n2_ n3_; (try clear hb); (try clear hb2); (try clear hk); (try clear hi); (try clear ho0); obtain ⟨Ao61, co61, eo61⟩ := Kd.R_slice HO472.out; subst eo61) | ((with_reducible refine gate_builtin (b := .append) (xs := #[.tmp 110, .tmp 111]) rfl ?_); at_builtin; refine Kd.R_append_rows (Kd.int .u8) (w0 := w) w.heap.size rfl (.tmp 110) (.tmp 111) 24 5 (.int .u8 0) 1 rfl Try.underlying24 info5 rfl (by decide) (by omega) u3 x3_2 t470 _ _ _ (fun k_ => some k_ ≠ (.slice Ao61 t470.length co61 : Value).ownBlock) (fun _ => False) rfl rfl ?aO ?aR (fun _ _ h => h) (fun _ h => h.elim) ?aF ?aB ?aS ?aL ?_; (case aR => repeat (first | exact (Kd.R_reads' HO472.out).2.2 | (with_reducible refine Kd.C_alloc ?_ _) | (with_reducible refine Kd.C_drewN ?_ _) | (with_reducible refine Kd.C_drew ?_))); (case aB => exact (zb)); (case aF => exact (fun k_ hk => Kd.fresh' (Kd.R_lt (zr HO472)) k_ hk)); (case aO => exact (by (with_reducible repeat (first | apply Kd.R_alloc | apply Kd.R_drewN | apply Kd.R_drew)); exact Kd.R_mono HO_3.out (fun _ hk => hk.2))); (case aS => exact (below_size (zb))); (case aL => have := LMc57.out; omega); intro v475 w60 ho hb hg hat; rw [← Ny474.out] at ho; have n0_ := Aside0.mk (blk_grown (g := gb426) (o := .cells #[.int .u8 a0_0, .int .u16 a0_1, .slice A0_2 l0_2.length c0_2, .slice (some ad469) l0_3.length c0_3, .slice A0_4 l0_4.length c0_4, .slice A0_5 l0_5.length c0_5] 38 (0, 0)) zk hg (Kd.R_ne HO_3.out BK426.out (by decide))); have n1_ := Aside0.mk (Kd.R_after (ok := (fun _ => True)) (zr HO472) hg hat); have n2_ := Aside0.mk (hb); have n3_ := Aside0.mk (ho); clear BK426; clear HO472; clear HB; clear HO_3; have BK426 := n0_; have HO472 := n1_; have HB := n2_; have HO476 := n3_; clear n0_ n1_ n2_ n3_; clear ho hb hg hat))
                          go_roundg k2
                          case measure => have := HK1.out; have := HK2.out; omega
                          case rel => exact ⟨(y474), (wrap64 (x10_2 + 1)), zs, H', ⟨by have := HK1.out; have := HK2.out; omega⟩, ⟨by (with_reducible repeat (first | apply Kd.R_alloc | apply Kd.R_drewN | apply Kd.R_drew)); exact Kd.R_mono HO476.out (fun _ hk => trivial)⟩, ⟨by (with_reducible repeat (first | refine blk_drewN ?_ _ | refine blk_drew ?_ | refine blk_alloc ?_ _)); exact BK426.out⟩, ⟨zb⟩⟩
                        · rw [if_neg c57] at H
                          exact absurd H (by simp)
                      · rw [if_neg c55] at H
                        exact absurd H (by simp)
                    · rw [if_neg c54] at H
                      have c54b0 : decide (x10_2 < (l0_3.length : Int)) = false := decide_eq_false c54
                      clear c54
                      by_cases c62 : x3_2.length < 140737488355328
                      · rw [if_pos c62] at H
                        have LMc62 := Aside0.mk c62
                        clear c62
                        obtain ⟨y477, hy477⟩ : ∃ y_ : List Int, y_ = (x3_2 ++ [((l0_4.length : Int)) % 256]) := ⟨_, rfl⟩
                        replace H : (garderoberef08_bytes.l3 k2 y477 0 a0_0 a0_1 l0_2 l0_3 l0_4 l0_5) = some r := by first | (rw [hy477]; with_reducible exact H) | (have H2_ := (Option.bind_some _ _).symm.trans H; rw [hy477]; with_reducible exact H2_) | (have H2_ := (Option.bind_some _ _).symm.trans H; with_reducible exact H2_) | with_reducible exact H | (rw [hy477]; exact H) | exact H
                        have Ny477 := Aside0.mk hy477
                        clear hy477
                        have H' := Aside0.mk H
                        clear H
                        obtain ⟨hcz63_0, hcz63_1, hcz63_2, hcz63_3, hcz63_4, hcz63_5⟩ := cells6 BK426.out
                        obtain ⟨hfz63_0, hfz63_1, hfz63_2, hfz63_3, hfz63_4, hfz63_5⟩ := froz6 BK426.out
                        go_wp2_with (first | ((with_reducible refine gate_builtin (b := .append) (xs := #[.tmp 113, .tmp 118]) rfl ?_); at_builtin; refine Kd.R_append (Kd.int .u8) (w0 := w) w.heap.size rfl (.tmp 113) (.tmp 118) 24 5 (.int .u8 0) 1 rfl Try.underlying24 info5 rfl (by decide) (by omega) u3 x3_2 (((l0_4.length : Int)) % 256) [.int .u8 (((l0_4.length : Int)) % 256)] (fun _ => True) (fun _ => False) rfl rfl ?aP (fun _ hk => hk.elim) ?aF ?aO ?aB ?aS ?aL ?_; (case aP => exact rfl); (case aB => exact (zb)); (case aF => exact (fun _ _ => trivial)); (case aO => exact (zr HO_3)); (case aS => exact (below_size (zb))); (case aL => have := LMc62.out; omega); intro v478 w64 ho hb hg hat; rw [← Ny477.out] at ho; have n0_ := Aside0.mk (blk_grown (g := gb426) (o := .cells #[.int .u8 a0_0, .int .u16 a0_1, .slice A0_2 l0_2.length c0_2, .slice A0_3 l0_3.length c0_3, .slice A0_4 l0_4.length c0_4, .slice A0_5 l0_5.length c0_5] 38 (0, 0)) zk hg (Kd.R_ne HO_3.out BK426.out (by decide))); have n1_ := Aside0.mk (hb); have n2_ := Aside0.mk (ho); clear BK426; clear HB; clear HO_3; have BK426 := n0_; have HB := n1_; have HO479 := n2_; clear n0_ n1_ n2_; clear ho hb hg hat))
                        go_loopg [3, 13] k2 (fun kq v3 v13 w' => ∃ (x3_3 : List Int) (x13_3 : Int), v13 = .int .i64 x13_3 ∧ Aside0 (garderoberef08_bytes.l3 kq x3_3 x13_3 a0_0 a0_1 l0_2 l0_3 l0_4 l0_5 = some r) ∧ Aside0 (kq ≤ k2) ∧ Aside0 (Kd.R (Kd.int .u8) 5 w' w.heap.size (fun _ => True) v3 x3_3) ∧ Aside0 (w'.heap[gb426]? = some (.cells #[.int .u8 a0_0, .int .u16 a0_1, (.slice A0_2 l0_2.length c0_2), (.slice A0_3 l0_3.length c0_3), (.slice A0_4 l0_4.length c0_4), (.slice A0_5 l0_5.length c0_5)] 38 (0, 0))) ∧ Aside0 (Below w.heap.size w w'))
                        case atStart => exact ⟨(y477), (0), zs, H', ⟨Nat.le_refl _⟩, ⟨zr HO479⟩, ⟨by (with_reducible repeat (first | refine blk_drewN ?_ _ | refine blk_drew ?_ | refine blk_alloc ?_ _)); exact BK426.out⟩, ⟨zb⟩⟩
                        case round =>
                          clear H'
                          try clear c1
                          try clear c2
                          try clear p2
                          try clear c3
                          try clear c4
                          try clear p4
                          try clear q4
                          try clear hx4
                          try clear c5
                          try clear c6
                          try clear p6
                          try clear c13
                          try clear c13b0
                          try clear c14
                          try clear c14b0
                          try clear c16
                          try clear c23
                          try clear c24
                          try clear c25
                          try clear c33
                          try clear c37
                          try clear c37b0
                          try clear c38
                          try clear c38b0
                          try clear c40
                          try clear c42
                          try clear c43
                          try clear p43
                          try clear q43
                          try clear hx43
                          try clear c45
                          try clear p45
                          try clear q45
                          try clear hx45
                          try clear p46
                          try clear q46
                          try clear hx46
                          try clear c51
                          try clear c54
                          try clear c54b0
                          try clear c55
                          try clear c55b0
                          try clear c56
                          try clear c57
                          try clear c58
                          try clear c59
                          try clear c62
                          try clear p64
                          try clear hcz11_0
                          try clear hcz11_1
                          try clear hcz11_2
                          try clear hcz11_3
                          try clear hcz11_4
                          try clear hcz11_5
                          try clear hcz17_0
                          try clear hcz17_1
                          try clear hcz17_2
                          try clear hcz17_3
                          try clear hcz17_4
                          try clear hcz17_5
                          try clear hcz21_0
                          try clear hcz21_1
                          try clear hcz21_2
                          try clear hcz21_3
                          try clear hcz21_4
                          try clear hcz21_5
                          try clear hcz26_0
                          try clear hcz26_1
                          try clear hcz26_2
                          try clear hcz26_3
                          try clear hcz26_4
                          try clear hcz26_5
                          try clear hcz29_0
                          try clear hcz29_1
                          try clear hcz29_2
                          try clear hcz29_3
                          try clear hcz29_4
                          try clear hcz29_5
                          try clear hcz31_0
                          try clear hcz31_1
                          try clear hcz31_2
                          try clear hcz31_3
                          try clear hcz31_4
                          try clear hcz31_5
                          try clear hcz35_0
                          try clear hcz35_1
                          try clear hcz35_2
                          try clear hcz35_3
                          try clear hcz35_4
                          try clear hcz35_5
                          try clear hcz43_0
                          try clear hcz43_1
                          try clear hcz43_2
                          try clear hcz43_3
                          try clear hcz43_4
                          try clear hcz43_5
                          try clear hcz47_0
                          try clear hcz47_1
                          try clear hcz47_2
                          try clear hcz47_3
                          try clear hcz47_4
                          try clear hcz47_5
                          try clear hcz52_0
                          try clear hcz52_1
                          try clear hcz52_2
                          try clear hcz52_3
                          try clear hcz52_4
                          try clear hcz52_5
                          try clear hcz58_0
                          try clear hcz58_1
                          try clear hcz58_2
                          try clear hcz58_3
                          try clear hcz58_4
                          try clear hcz58_5
                          try clear hcz63_0
                          try clear hcz63_1
                          try clear hcz63_2
                          try clear hcz63_3
                          try clear hcz63_4
                          try clear hcz63_5
                          try clear hcz6_0
                          try clear hcz6_1
                          try clear hcz6_2
                          try clear hcz6_3
                          try clear hcz6_4
                          try clear hcz6_5
                          try clear hcz9_0
                          try clear hcz9_1
                          try clear hcz9_2
                          try clear hcz9_3
                          try clear hcz9_4
                          try clear hcz9_5
                          try clear hfz11_0
                          try clear hfz11_1
                          try clear hfz11_2
                          try clear hfz11_3
                          try clear hfz11_4
                          try clear hfz11_5
                          try clear hfz17_0
                          try clear hfz17_1
                          try clear hfz17_2
                          try clear hfz17_3
                          try clear hfz17_4
                          try clear hfz17_5
                          try clear hfz21_0
                          try clear hfz21_1
                          try clear hfz21_2
                          try clear hfz21_3
                          try clear hfz21_4
                          try clear hfz21_5
                          try clear hfz26_0
                          try clear hfz26_1
                          try clear hfz26_2
                          try clear hfz26_3
                          try clear hfz26_4
                          try clear hfz26_5
                          try clear hfz29_0
                          try clear hfz29_1
                          try clear hfz29_2
                          try clear hfz29_3
                          try clear hfz29_4
                          try clear hfz29_5
                          try clear hfz31_0
                          try clear hfz31_1
                          try clear hfz31_2
                          try clear hfz31_3
                          try clear hfz31_4
                          try clear hfz31_5
                          try clear hfz35_0
                          try clear hfz35_1
                          try clear hfz35_2
                          try clear hfz35_3
                          try clear hfz35_4
                          try clear hfz35_5
                          try clear hfz43_0
                          try clear hfz43_1
                          try clear hfz43_2
                          try clear hfz43_3
                          try clear hfz43_4
                          try clear hfz43_5
                          try clear hfz47_0
                          try clear hfz47_1
                          try clear hfz47_2
                          try clear hfz47_3
                          try clear hfz47_4
                          try clear hfz47_5
                          try clear hfz52_0
                          try clear hfz52_1
                          try clear hfz52_2
                          try clear hfz52_3
                          try clear hfz52_4
                          try clear hfz52_5
                          try clear hfz58_0
                          try clear hfz58_1
                          try clear hfz58_2
                          try clear hfz58_3
                          try clear hfz58_4
                          try clear hfz58_5
                          try clear hfz63_0
                          try clear hfz63_1
                          try clear hfz63_2
                          try clear hfz63_3
                          try clear hfz63_4
                          try clear hfz63_5
                          try clear hfz6_0
                          try clear hfz6_1
                          try clear hfz6_2
                          try clear hfz6_3
                          try clear hfz6_4
                          try clear hfz6_5
                          try clear hfz9_0
                          try clear hfz9_1
                          try clear hfz9_2
                          try clear hfz9_3
                          try clear hfz9_4
                          try clear hfz9_5
                          try clear hx434_0
                          try clear hx434_1
                          try clear hx434_2
                          try clear hx451_0
                          try clear hx451_1
                          try clear hx458_0
                          try clear hx458_1
                          try clear hx469_0
                          try clear hx469_1
                          try clear p2
                          try clear p4
                          try clear p43
                          try clear p434
                          try clear p45
                          try clear p451
                          try clear p458
                          try clear p469
                          try clear p6
                          try clear q4
                          try clear q43
                          try clear q434
                          try clear q45
                          try clear q451
                          try clear q458
                          try clear q469
                          obtain ⟨x3_3, x13_3, rfl, HA, HK3, HO_3, BK426, HB⟩ := hrel
                          cases gk with
                          | zero => exact absurd HA.out (by simp [garderoberef08_bytes.l3])
                          | succ k3 =>
                            have H := HA.out
                            clear HA
                            simp only [garderoberef08_bytes.l3] at H
                            by_cases c65 : x13_3 < (l0_4.length : Int)
                            · rw [if_pos c65] at H
                              have c65b0 : decide (x13_3 < (l0_4.length : Int)) = true := decide_eq_true c65
                              clear c65
                              by_cases c66 : 0 ≤ x13_3
                              · rw [if_pos c66] at H
                                have c66b0 : decide (0 ≤ x13_3) = true := decide_eq_true c66
                                clear c66
                                replace H := Option.bind_eq_some_iff.mp H
                                obtain ⟨t481, A670, H⟩ := H
                                replace H : (if x3_3.length + t481.length < 140737488355328 then (garderoberef08_bytes.l3 k3 (x3_3 ++ t481) (wrap64 (x13_3 + 1)) a0_0 a0_1 l0_2 l0_3 l0_4 l0_5) else (none)) = some r := H
                                have A67 := Aside0.mk A670
                                clear A670
                                by_cases c68 : x3_3.length + t481.length < 140737488355328
                                · rw [if_pos c68] at H
                                  have LMc68 := Aside0.mk c68
                                  clear c68
                                  obtain ⟨y484, hy484⟩ : ∃ y_ : List Int, y_ = (x3_3 ++ t481) := ⟨_, rfl⟩
                                  replace H : (garderoberef08_bytes.l3 k3 y484 (wrap64 (x13_3 + 1)) a0_0 a0_1 l0_2 l0_3 l0_4 l0_5) = some r := by first | (rw [hy484]; with_reducible exact H) | (have H2_ := (Option.bind_some _ _).symm.trans H; rw [hy484]; with_reducible exact H2_) | (have H2_ := (Option.bind_some _ _).symm.trans H; with_reducible exact H2_) | with_reducible exact H | (rw [hy484]; exact H) | exact H
                                  have Ny484 := Aside0.mk hy484
                                  clear hy484
                                  have H' := Aside0.mk H
                                  clear H
                                  obtain ⟨hcz69_0, hcz69_1, hcz69_2, hcz69_3, hcz69_4, hcz69_5⟩ := cells6 BK426.out
                                  obtain ⟨hfz69_0, hfz69_1, hfz69_2, hfz69_3, hfz69_4, hfz69_5⟩ := froz6 BK426.out
                                  have p480 : 0 ≤ (x13_3 : Int) := of_decide_eq_true (by first | (with_reducible assumption) | assumption)
                                  have q480 : x13_3 < (l0_4.length : Int) := of_decide_eq_true (by first | (with_reducible assumption) | assumption)
                                  obtain ⟨ad480, e480, hx480_0⟩ := Kd.at_int HR0_4.out x13_3 p480 q480
                                  cases e480
                                  replace hx480_0 := (HB.out.cell (World.block_lt_of_cell? w _ hx480_0)).trans hx480_0
                                  replace p480 := eq_true p480
                                  replace q480 := eq_true q480
                                  go_wp2_with (first | ((with_reducible refine gate_callee (f := 57) rfl ?_); refine goesL_ (some 133) rfl rfl Try.func57 (by kernel_rfl) rfl #[.int .u16 (rd l0_4 x13_3)] rfl zargs ?_; (with_reducible refine (garderoberef08_word.calls (rd l0_4 x13_3) t481 _ A67.out).mono ?_); rintro e w70 ⟨v482, rfl, ho0, hb⟩; refine ⟨_, rfl, ?_⟩; have n0_ := Aside0.mk (Kd.R_elder' (zr HO_3) (Kd.R_base ho0) hb); have n1_ := Aside0.mk (Kd.R_lower (Kd.R_new' ho0 (Kd.R_lt (zr HO_3))) (below_size (zb))); have n2_ := Aside0.mk (blk_below (g := gb426) (o := .cells #[.int .u8 a0_0, .int .u16 a0_1, .slice A0_2 l0_2.length c0_2, .slice A0_3 l0_3.length c0_3, .slice (some ad480) l0_4.length c0_4, .slice A0_5 l0_5.length c0_5] 38 (0, 0)) zk hb); have n3_ := Aside0.mk (below_step (zb) hb); clear HO_3; clear BK426; clear HB; have HO_3 := n0_; have HO483 := n1_; have BK426 := n2_; have HB := n3_; clear n0_ n1_ n2_ n3_; (try clear hb); (try clear hb2); (try clear hk); (try clear hi); (try clear ho0); obtain ⟨Ao72, co72, eo72⟩ := Kd.R_slice HO483.out; subst eo72) | ((with_reducible refine gate_builtin (b := .append) (xs := #[.tmp 127, .tmp 133]) rfl ?_); at_builtin; refine Kd.R_append_rows (Kd.int .u8) (w0 := w) w.heap.size rfl (.tmp 127) (.tmp 133) 24 5 (.int .u8 0) 1 rfl Try.underlying24 info5 rfl (by decide) (by omega) u3 x3_3 t481 _ _ _ (fun k_ => some k_ ≠ (.slice Ao72 t481.length co72 : Value).ownBlock) (fun _ => False) rfl rfl ?aO ?aR (fun _ _ h => h) (fun _ h => h.elim) ?aF ?aB ?aS ?aL ?_; (case aR => repeat (first | exact (Kd.R_reads' HO483.out).2.2 | (with_reducible refine Kd.C_alloc ?_ _) | (with_reducible refine Kd.C_drewN ?_ _) | (with_reducible refine Kd.C_drew ?_))); (case aB => exact (zb)); (case aF => exact (fun k_ hk => Kd.fresh' (Kd.R_lt (zr HO483)) k_ hk)); (case aO => exact (by (with_reducible repeat (first | apply Kd.R_alloc | apply Kd.R_drewN | apply Kd.R_drew)); exact Kd.R_mono HO_3.out (fun _ hk => hk.2))); (case aS => exact (below_size (zb))); (case aL => have := LMc68.out; omega); intro v485 w71 ho hb hg hat; rw [← Ny484.out] at ho; have n0_ := Aside0.mk (blk_grown (g := gb426) (o := .cells #[.int .u8 a0_0, .int .u16 a0_1, .slice A0_2 l0_2.length c0_2, .slice A0_3 l0_3.length c0_3, .slice (some ad480) l0_4.length c0_4, .slice A0_5 l0_5.length c0_5] 38 (0, 0)) zk hg (Kd.R_ne HO_3.out BK426.out (by decide))); have n1_ := Aside0.mk (Kd.R_after (ok := (fun _ => True)) (zr HO483) hg hat); have n2_ := Aside0.mk (hb); have n3_ := Aside0.mk (ho); clear BK426; clear HO483; clear HB; clear HO_3; have BK426 := n0_; have HO483 := n1_; have HB := n2_; have HO486 := n3_; clear n0_ n1_ n2_ n3_; clear ho hb hg hat))
                                  go_roundg k3
                                  case measure => have := HK1.out; have := HK2.out; have := HK3.out; omega
                                  case rel => exact ⟨(y484), (wrap64 (x13_3 + 1)), zs, H', ⟨by have := HK1.out; have := HK2.out; have := HK3.out; omega⟩, ⟨by (with_reducible repeat (first | apply Kd.R_alloc | apply Kd.R_drewN | apply Kd.R_drew)); exact Kd.R_mono HO486.out (fun _ hk => trivial)⟩, ⟨by (with_reducible repeat (first | refine blk_drewN ?_ _ | refine blk_drew ?_ | refine blk_alloc ?_ _)); exact BK426.out⟩, ⟨zb⟩⟩
                                · rw [if_neg c68] at H
                                  exact absurd H (by simp)
                              · rw [if_neg c66] at H
                                exact absurd H (by simp)
                            · rw [if_neg c65] at H
                              have c65b0 : decide (x13_3 < (l0_4.length : Int)) = false := decide_eq_false c65
                              clear c65
                              obtain rfl := Option.some.inj H
                              obtain ⟨hcz73_0, hcz73_1, hcz73_2, hcz73_3, hcz73_4, hcz73_5⟩ := cells6 BK426.out
                              obtain ⟨hfz73_0, hfz73_1, hfz73_2, hfz73_3, hfz73_4, hfz73_5⟩ := froz6 BK426.out
                              go_wp2
                              go_ret
                              exact ⟨_, ze, by (with_reducible repeat (first | apply Kd.R_alloc | apply Kd.R_drewN | apply Kd.R_drew)); exact HO_3.out, zb⟩
                      · rw [if_neg c62] at H
                        exact absurd H (by simp)
              · rw [if_neg c51] at H
                exact absurd H (by simp)
      · rw [if_neg c24] at H
        exact absurd H (by simp)
    · rw [if_neg c23] at H
      exact absurd H (by simp)
end Go.Proofs.Ytjbpdmkalegacaa.PClassFresh
