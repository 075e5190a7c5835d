/- Of ClassFresh's texts: what the law uses. -/
import Derived.Test.YtjbpdmkalegacaaVPClassFreshx0
import Derived.Test.YtjbpdmkalegacaaVPClassFreshx1
import Derived.Test.YtjbpdmkalegacaaVPClassFreshx2
namespace Go.Proofs.Ytjbpdmkalegacaa.PClassFresh
open Go.RowKit Go.Proofs.YtjbpdmkalegacaaW.PrintWords Go.Proofs.YtjbpdmkalegacaaW.PrintLast Go.Proofs.YtjbpdmkalegacaaW.PrintMore Go.Proofs.YtjbpdmkalegacaaW.Mine
attribute [local go_sem] Go.Proofs.YtjbpdmkalegacaaW.Mine.isSome_set max2_int min2_int max_two min_two max_three min_three max_four min_four   -- for this text's walks alone
set_option linter.unusedVariables false
set_option linter.unusedSimpArgs false
attribute [local go_sem high] eqA44
mutual
def types_PutSig.j0 : Nat → List Int → List (S44) → Int → Int → Option (List Int × Int)
  | 0, _, _, _, _ => none
  | k + 1, x4, x122000, x122001, x122002 => if (x122000.length : Int) > 15 then (some (([] : List Int), 2)) else (if x4.length < 140737488355328 then (types_PutSig.l0 k (x4 ++ [((x122000.length : Int)) % 256]) x122000 (x122000.length : Int) 0) else (none))
def types_PutSig.l0 : Nat → List Int → List (S44) → Int → Int → Option (List Int × Int)
  | 0, _, _, _, _ => none
  | k + 1, x4, x36, x37, x38 => if x38 < x37 then (if 0 ≤ x38 then (if x38 < (x36.length : Int) then ((types_Put.f k ((rd_T44 x36 x38).f0) ((rd_T44 x36 x38).f1)).bind fun bt134 => (if bt134.2 = 0 then (if x4.length + bt134.1.length < 140737488355328 then (types_PutSig.l0 k (x4 ++ bt134.1) x36 x37 (wrap64 (x38 + 1))) else (none)) else (some (([] : List Int), bt134.2)))) else (none)) else (none)) else (some (x4, 0))
end
def types_PutSig.f (k : Nat) (l0_0 : List (S44)) (a0_1 : Int) (a0_2 : Int) : Option (List Int × Int) := if (!(a0_1 == 0) || (!(a0_2 == 0))) = true then ((types_Put.f k a0_1 a0_2).bind fun bt125 => (if bt125.2 = 0 then (types_PutSig.j0 k bt125.1 l0_0 a0_1 a0_2) else (some (([] : List Int), bt125.2)))) else (types_PutSig.j0 k (([0] : List Int)) l0_0 a0_1 a0_2)
set_option maxHeartbeats 8000000 in
set_option maxRecDepth 100000 in
theorem types_PutSig.calls (k : Nat) (A0_0 : Option Addr) (c0_0 : Nat) (l0_0 : List (S44)) (a0_1 : Int) (a0_2 : Int) (r1 : List Int) (r2 : Int) (w : World) (hr0_0 : Kd.C k44 w A0_0 l0_0.length l0_0) (hc0_0 : l0_0.length ≤ c0_0) (h : types_PutSig.f k l0_0 a0_1 a0_2 = some (r1, r2)) :
    Calls Try.prog 27 #[.agg #[.slice A0_0 l0_0.length c0_0, .int .u8 a0_1, .int .u16 a0_2]] w fun e w' => ∃ v0_ : Value, e = .returned (.tuple #[v0_, .int .i64 r2]) ∧ Kd.R (Kd.int .u8) 5 w' w.heap.size (fun _ => True) v0_ r1 ∧ Below w.heap.size w w' := by
  have hu66 := Try.underlying66
  have hu44 := Try.underlying44
  have HR0_0 := Aside0.mk hr0_0
  have HC0_0 := Aside0.mk hc0_0
  clear hr0_0 hc0_0
  have HB := Aside0.mk (Below.refl w.heap.size w)
  have H : (if (!(a0_1 == 0) || (!(a0_2 == 0))) = true then ((types_Put.f k a0_1 a0_2).bind fun bt125 => (if bt125.2 = 0 then (types_PutSig.j0 k bt125.1 l0_0 a0_1 a0_2) else (some (([] : List Int), bt125.2)))) else (types_PutSig.j0 k (([0] : List Int)) l0_0 a0_1 a0_2)) = some (r1, r2) := h
  clear h
  obtain ⟨y122, hy122⟩ : ∃ y_ : List Int, y_ = (([0] : List Int)) := ⟨_, rfl⟩
  replace H : (if (!(a0_1 == 0) || (!(a0_2 == 0))) = true then ((types_Put.f k a0_1 a0_2).bind fun bt125 => (if bt125.2 = 0 then (types_PutSig.j0 k bt125.1 l0_0 a0_1 a0_2) else (some (([] : List Int), bt125.2)))) else (types_PutSig.j0 k y122 l0_0 a0_1 a0_2)) = some (r1, r2) := by first | (rw [hy122]; with_reducible exact H) | (have H2_ := (Option.bind_some _ _).symm.trans H; rw [hy122]; with_reducible exact H2_) | (have H2_ := (Option.bind_some _ _).symm.trans H; with_reducible exact H2_) | with_reducible exact H | (rw [hy122]; exact H) | exact H
  have Ny122 := Aside0.mk hy122
  clear hy122
  have HC2 := Aside0.mk H
  clear H
  go_enter Try.func27, Try.ntmps27
  go_upto_if 14 with (first | ((with_reducible refine gate_dst (N := 1) rfl ?_); refine zbox (N := 1) (cs := #[.slice A0_0 l0_0.length c0_0, .int .u8 a0_1, .int .u16 a0_2]) (t := 66) ?_; intro gb121 hg w3 hbox hb; have n0_ := Aside0.mk (below_step (zb) hb); have n1_ := Aside0.mk (hbox); have n2_ := Aside0.mk ((by rw [hg]; exact (below_size (zb)) : w.heap.size ≤ gb121)); have n3_ := Aside0.mk ((by rw [hg]; exact (below_size (zb)) : w.heap.size ≤ gb121)); clear HB; have HB := n0_; have BK121 := n1_; have GW121 := n2_; have GE121 := n3_; clear n0_ n1_ n2_ n3_; clear hb hbox hg) | ((with_reducible refine gate_dst (N := 10) rfl ?_); refine Kd.R_lit (Kd.int .u8) _ 5 ?hg (N := 10) ?hd (xs := ([0] : List Int)) (inner := [.int .u8 0]) (ok := fun _ => True) (okp := fun _ => True) ?hr ?hp (fun _ hk => hk) trivial (Below.refl _ _) (Nat.le_refl _) (by simp) ?_; (case hd => rfl); (case hg => rfl); (case hr => first | (go_simp; done) | (go_simp; rfl)); (case hp => exact (Reps.one (show Kd.M (Kd.int .u8) _ _ _ 0 [.int .u8 0] from rfl) (Reps.none _ _))); intro v123 w4 ho5 hb hg_ hnew_; clear hg_ hnew_; (first | rw [← Ny122.out] at ho5 | (simp only [Int.reduceToNat] at ho5; rw [← Ny122.out] at ho5)); have n0_ := Aside0.mk (Kd.R_lower ho5 (below_size (zb))); have n1_ := Aside0.mk (blk_below (g := gb121) (o := .cells #[.slice A0_0 l0_0.length c0_0, .int .u8 a0_1, .int .u16 a0_2] 66 (0, 0)) zk hb); have n2_ := Aside0.mk (below_step (zb) hb); clear BK121; clear HB; have HO124 := n0_; have BK121 := n1_; have HB := n2_; clear n0_ n1_ n2_; clear hb ho5; obtain ⟨hcz6_0, hcz6_1, hcz6_2⟩ := cells3 BK121.out; obtain ⟨hfz6_0, hfz6_1, hfz6_2⟩ := froz3 BK121.out))
  (try simp only [Act.put, List.setIfInBounds_toArray, List.set_cons_zero, List.set_cons_succ])
  go_cut [4] (fun v4 wc => ∃ (kq : Nat) (x4_1 : List Int), Aside0 (types_PutSig.j0 kq x4_1 l0_0 a0_1 a0_2 = some (r1, r2)) ∧ Aside0 (kq ≤ k) ∧ Aside0 (Kd.R (Kd.int .u8) 5 wc w.heap.size (fun _ => True) v4 x4_1) ∧ Aside0 (wc.heap[gb121]? = some (.cells #[(.slice A0_0 l0_0.length c0_0), .int .u8 a0_1, .int .u16 a0_2] 66 (0, 0))) ∧ Aside0 (Below w.heap.size w wc))
  case first =>
    have H := HC2.out
    clear HC2
    by_cases c7 : (!(a0_1 == 0) || (!(a0_2 == 0))) = true
    · rw [if_pos c7] at H
      have c7b0 : (!(a0_1 == 0) || (!(a0_2 == 0))) = true := c7
      clear c7
      (first | rw [c7b0] | (simp only [i64_w, i32_w]; rw [c7b0]) | skip)
      replace H := Option.bind_eq_some_iff.mp H
      obtain ⟨⟨t125, t128⟩, A80, H⟩ := H
      replace H : (if t128 = 0 then (types_PutSig.j0 k t125 l0_0 a0_1 a0_2) else (some (([] : List Int), t128))) = some (r1, r2) := H
      have A8 := Aside0.mk A80
      clear A80
      by_cases c9 : t128 = 0
      · rw [if_pos c9] at H
        have c9b0 : (t128 == 0) = true := beq_iff_eq.mpr c9
        have c9b1 : (t128 != 0) = false := bne_eq_false_iff_eq.mpr c9
        clear c9
        have H' := Aside0.mk H
        clear H
        obtain ⟨hcz10_0, hcz10_1, hcz10_2⟩ := cells3 BK121.out
        obtain ⟨hfz10_0, hfz10_1, hfz10_2⟩ := froz3 BK121.out
        go_wp2_with (first | ((with_reducible refine gate_callee (f := 41) rfl ?_); refine goesL_ (some 18) rfl rfl Try.func41 (by kernel_rfl) rfl #[.agg #[.int .u8 a0_1, .int .u16 a0_2]] rfl zargs ?_; (with_reducible refine (types_Put.calls k a0_1 a0_2 t125 t128 _ A8.out).mono ?_); rintro e w11 ⟨v126, rfl, ho0, hb⟩; refine ⟨_, rfl, ?_⟩; have n0_ := Aside0.mk (Kd.R_elder' (zr HO124) (Kd.R_base ho0) hb); have n1_ := Aside0.mk (Kd.R_lower (Kd.R_new' ho0 (Kd.R_lt (zr HO124))) (below_size (zb))); have n2_ := Aside0.mk (blk_below (g := gb121) (o := .cells #[.slice A0_0 l0_0.length c0_0, .int .u8 a0_1, .int .u16 a0_2] 66 (0, 0)) zk hb); have n3_ := Aside0.mk (below_step (zb) hb); clear HO124; clear BK121; clear HB; have HO124 := n0_; have HO127 := n1_; have BK121 := n2_; have HB := n3_; clear n0_ n1_ n2_ n3_; (try clear hb); (try clear hb2); (try clear hk); (try clear hi); (try clear ho0)))
        go_meet
        case rel => exact ⟨_, (t125), H', ⟨by first | omega | exact Nat.le_refl _⟩, ⟨by (with_reducible repeat (first | apply Kd.R_alloc | apply Kd.R_drewN | apply Kd.R_drew)); exact Kd.R_mono HO127.out (fun _ hk => trivial)⟩, ⟨by (with_reducible repeat (first | refine blk_drewN ?_ _ | refine blk_drew ?_ | refine blk_alloc ?_ _)); exact BK121.out⟩, ⟨zb⟩⟩
      · rw [if_neg c9] at H
        have c9b0 : (t128 == 0) = false := beq_eq_false_iff_ne.mpr c9
        have c9b1 : (t128 != 0) = true := bne_iff_ne.mpr c9
        simp only [Option.some.injEq, Prod.mk.injEq] at H
        obtain ⟨rfl, rfl⟩ := H
        obtain ⟨hcz12_0, hcz12_1, hcz12_2⟩ := cells3 BK121.out
        obtain ⟨hfz12_0, hfz12_1, hfz12_2⟩ := froz3 BK121.out
        go_wp2_with (first | ((with_reducible refine gate_callee (f := 41) rfl ?_); refine goesL_ (some 18) rfl rfl Try.func41 (by kernel_rfl) rfl #[.agg #[.int .u8 a0_1, .int .u16 a0_2]] rfl zargs ?_; (with_reducible refine (types_Put.calls k a0_1 a0_2 t125 t128 _ A8.out).mono ?_); rintro e w13 ⟨v126, rfl, ho0, hb⟩; refine ⟨_, rfl, ?_⟩; have n0_ := Aside0.mk (Kd.R_elder' (zr HO124) (Kd.R_base ho0) hb); have n1_ := Aside0.mk (Kd.R_lower (Kd.R_new' ho0 (Kd.R_lt (zr HO124))) (below_size (zb))); have n2_ := Aside0.mk (blk_below (g := gb121) (o := .cells #[.slice A0_0 l0_0.length c0_0, .int .u8 a0_1, .int .u16 a0_2] 66 (0, 0)) zk hb); have n3_ := Aside0.mk (below_step (zb) hb); clear HO124; clear BK121; clear HB; have HO124 := n0_; have HO127 := n1_; have BK121 := n2_; have HB := n3_; clear n0_ n1_ n2_ n3_; (try clear hb); (try clear hb2); (try clear hk); (try clear hi); (try clear ho0)))
        go_ret2
        exact ⟨_, ze, by first | exact Kd.R_nil _ _ _ _ _ | exact Kd.N_nil _ _ _ _ _ | exact Kd.V_nil _ _ _ _ _ | exact Kd.Q_nil _ _ _ _ _ | exact Kd.S_nil _ _ _ _ _, zb⟩
    · rw [if_neg c7] at H
      have c7b0 : (!(a0_1 == 0) || (!(a0_2 == 0))) = false := by simpa using c7
      clear c7
      (first | rw [c7b0] | (simp only [i64_w, i32_w]; rw [c7b0]) | skip)
      have H' := Aside0.mk H
      clear H
      go_wp2
      go_meet
      case rel => exact ⟨_, (y122), H', ⟨by first | omega | exact Nat.le_refl _⟩, ⟨zr HO124⟩, ⟨by (with_reducible repeat (first | refine blk_drewN ?_ _ | refine blk_drew ?_ | refine blk_alloc ?_ _)); exact BK121.out⟩, ⟨zb⟩⟩
  case rest =>
    clear HC2
    try clear c2
    try clear p2
    try clear c4
    try clear c7
    try clear c7b0
    try clear c9
    try clear c9b0
    try clear c9b1
    try clear hcz10_0
    try clear hcz10_1
    try clear hcz10_2
    try clear hcz12_0
    try clear hcz12_1
    try clear hcz12_2
    try clear hcz6_0
    try clear hcz6_1
    try clear hcz6_2
    try clear hfz10_0
    try clear hfz10_1
    try clear hfz10_2
    try clear hfz12_0
    try clear hfz12_1
    try clear hfz12_2
    try clear hfz6_0
    try clear hfz6_1
    try clear hfz6_2
    obtain ⟨kq, x4_1, HA, HJ1, HO_4, BK121, HB⟩ := hcut
    cases kq with
    | zero => exact absurd HA.out (by simp [types_PutSig.j0])
    | succ kj1 =>
      have H := HA.out
      clear HA
      simp only [types_PutSig.j0] at H
      by_cases c14 : (l0_0.length : Int) > 15
      · rw [if_pos c14] at H
        have c14b0 : decide (15 < (l0_0.length : Int)) = true := decide_eq_true c14
        have c14b1 : decide (15 < l0_0.length) = true := decide_eq_true (by omega)
        clear c14
        simp only [Option.some.injEq, Prod.mk.injEq] at H
        obtain ⟨rfl, rfl⟩ := H
        obtain ⟨hcz15_0, hcz15_1, hcz15_2⟩ := cells3 BK121.out
        obtain ⟨hfz15_0, hfz15_1, hfz15_2⟩ := froz3 BK121.out
        go_wp2
        go_ret2
        exact ⟨_, ze, by first | exact Kd.R_nil _ _ _ _ _ | exact Kd.N_nil _ _ _ _ _ | exact Kd.V_nil _ _ _ _ _ | exact Kd.Q_nil _ _ _ _ _ | exact Kd.S_nil _ _ _ _ _, zb⟩
      · rw [if_neg c14] at H
        have c14b0 : decide (15 < (l0_0.length : Int)) = false := decide_eq_false c14
        have c14b1 : decide (15 < l0_0.length) = false := decide_eq_false (by omega)
        clear c14
        by_cases c16 : x4_1.length < 140737488355328
        · rw [if_pos c16] at H
          have LMc16 := Aside0.mk c16
          clear c16
          obtain ⟨y129, hy129⟩ : ∃ y_ : List Int, y_ = (x4_1 ++ [((l0_0.length : Int)) % 256]) := ⟨_, rfl⟩
          replace H : (types_PutSig.l0 kj1 y129 l0_0 (l0_0.length : Int) 0) = some (r1, r2) := by first | (rw [hy129]; with_reducible exact H) | (have H2_ := (Option.bind_some _ _).symm.trans H; rw [hy129]; with_reducible exact H2_) | (have H2_ := (Option.bind_some _ _).symm.trans H; with_reducible exact H2_) | with_reducible exact H | (rw [hy129]; exact H) | exact H
          have Ny129 := Aside0.mk hy129
          clear hy129
          have H' := Aside0.mk H
          clear H
          obtain ⟨hcz17_0, hcz17_1, hcz17_2⟩ := cells3 BK121.out
          obtain ⟨hfz17_0, hfz17_1, hfz17_2⟩ := froz3 BK121.out
          go_wp2_with (first | ((with_reducible refine gate_builtin (b := .append) (xs := #[.tmp 28, .tmp 33]) rfl ?_); at_builtin; refine Kd.R_append (Kd.int .u8) (w0 := w) w.heap.size rfl (.tmp 28) (.tmp 33) 24 5 (.int .u8 0) 1 rfl Try.underlying24 info5 rfl (by decide) (by omega) u4 x4_1 (((l0_0.length : Int)) % 256) [.int .u8 (((l0_0.length : Int)) % 256)] (fun _ => True) (fun _ => False) rfl rfl ?aP (fun _ hk => hk.elim) ?aF ?aO ?aB ?aS ?aL ?_; (case aP => exact rfl); (case aB => exact (zb)); (case aF => exact (fun _ _ => trivial)); (case aO => exact (zr HO_4)); (case aS => exact (below_size (zb))); (case aL => have := LMc16.out; omega); intro v130 w18 ho hb hg hat; rw [← Ny129.out] at ho; have n0_ := Aside0.mk (blk_grown (g := gb121) (o := .cells #[.slice A0_0 l0_0.length c0_0, .int .u8 a0_1, .int .u16 a0_2] 66 (0, 0)) zk hg (Kd.R_ne HO_4.out BK121.out (by decide))); have n1_ := Aside0.mk (hb); have n2_ := Aside0.mk (ho); clear BK121; clear HB; clear HO_4; have BK121 := n0_; have HB := n1_; have HO131 := n2_; clear n0_ n1_ n2_; clear ho hb hg hat; obtain ⟨hcz19_0, hcz19_1, hcz19_2⟩ := cells3 BK121.out; obtain ⟨hfz19_0, hfz19_1, hfz19_2⟩ := froz3 BK121.out))
          go_loopg [4, 38] kj1 (fun kq v4 v38 w' => ∃ (x4_2 : List Int) (x38_2 : Int), v38 = .int .i64 x38_2 ∧ Aside0 (types_PutSig.l0 kq x4_2 l0_0 (l0_0.length : Int) x38_2 = some (r1, r2)) ∧ Aside0 (kq ≤ kj1) ∧ Aside0 (Kd.R (Kd.int .u8) 5 w' w.heap.size (fun _ => True) v4 x4_2) ∧ Aside0 (w'.heap[gb121]? = some (.cells #[(.slice A0_0 l0_0.length c0_0), .int .u8 a0_1, .int .u16 a0_2] 66 (0, 0))) ∧ Aside0 (Below w.heap.size w w'))
          case atStart => exact ⟨(y129), (0), zs, H', ⟨Nat.le_refl _⟩, ⟨zr HO131⟩, ⟨by (with_reducible repeat (first | refine blk_drewN ?_ _ | refine blk_drew ?_ | refine blk_alloc ?_ _)); exact BK121.out⟩, ⟨zb⟩⟩
          case round =>
            clear H'
            try clear c1
            try clear c2
            try clear p2
            try clear c4
            try clear c7
            try clear c7b0
            try clear c9
            try clear c9b0
            try clear c9b1
            try clear c14
            try clear c14b0
            try clear c14b1
            try clear c16
            try clear hcz10_0
            try clear hcz10_1
            try clear hcz10_2
            try clear hcz12_0
            try clear hcz12_1
            try clear hcz12_2
            try clear hcz15_0
            try clear hcz15_1
            try clear hcz15_2
            try clear hcz17_0
            try clear hcz17_1
            try clear hcz17_2
            try clear hcz19_0
            try clear hcz19_1
            try clear hcz19_2
            try clear hcz6_0
            try clear hcz6_1
            try clear hcz6_2
            try clear hfz10_0
            try clear hfz10_1
            try clear hfz10_2
            try clear hfz12_0
            try clear hfz12_1
            try clear hfz12_2
            try clear hfz15_0
            try clear hfz15_1
            try clear hfz15_2
            try clear hfz17_0
            try clear hfz17_1
            try clear hfz17_2
            try clear hfz19_0
            try clear hfz19_1
            try clear hfz19_2
            try clear hfz6_0
            try clear hfz6_1
            try clear hfz6_2
            try clear p2
            obtain ⟨x4_2, x38_2, rfl, HA, HK2, HO_4, BK121, HB⟩ := hrel
            cases gk with
            | zero => exact absurd HA.out (by simp [types_PutSig.l0])
            | succ k2 =>
              have H := HA.out
              clear HA
              simp only [types_PutSig.l0] at H
              by_cases c20 : x38_2 < (l0_0.length : Int)
              · rw [if_pos c20] at H
                have c20b0 : decide (x38_2 < (l0_0.length : Int)) = true := decide_eq_true c20
                clear c20
                by_cases c21 : 0 ≤ x38_2
                · rw [if_pos c21] at H
                  have c21b0 : decide (0 ≤ x38_2) = true := decide_eq_true c21
                  clear c21
                  by_cases c22 : x38_2 < (l0_0.length : Int)
                  · rw [if_pos c22] at H
                    have c22b0 : decide (x38_2 < (l0_0.length : Int)) = true := decide_eq_true c22
                    clear c22
                    replace H := Option.bind_eq_some_iff.mp H
                    obtain ⟨⟨t134, t137⟩, A230, H⟩ := H
                    replace H : (if t137 = 0 then (if x4_2.length + t134.length < 140737488355328 then (types_PutSig.l0 k2 (x4_2 ++ t134) l0_0 (l0_0.length : Int) (wrap64 (x38_2 + 1))) else (none)) else (some (([] : List Int), t137))) = some (r1, r2) := H
                    have A23 := Aside0.mk A230
                    clear A230
                    by_cases c24 : t137 = 0
                    · rw [if_pos c24] at H
                      have c24b0 : (t137 == 0) = true := beq_iff_eq.mpr c24
                      have c24b1 : (t137 != 0) = false := bne_eq_false_iff_eq.mpr c24
                      clear c24
                      by_cases c25 : x4_2.length + t134.length < 140737488355328
                      · rw [if_pos c25] at H
                        have LMc25 := Aside0.mk c25
                        clear c25
                        obtain ⟨y138, hy138⟩ : ∃ y_ : List Int, y_ = (x4_2 ++ t134) := ⟨_, rfl⟩
                        replace H : (types_PutSig.l0 k2 y138 l0_0 (l0_0.length : Int) (wrap64 (x38_2 + 1))) = some (r1, r2) := by first | (rw [hy138]; with_reducible exact H) | (have H2_ := (Option.bind_some _ _).symm.trans H; rw [hy138]; with_reducible exact H2_) | (have H2_ := (Option.bind_some _ _).symm.trans H; with_reducible exact H2_) | with_reducible exact H | (rw [hy138]; exact H) | exact H
                        have Ny138 := Aside0.mk hy138
                        clear hy138
                        have H' := Aside0.mk H
                        clear H
                        have p132 : 0 ≤ (x38_2 : Int) := of_decide_eq_true (by first | (with_reducible assumption) | assumption)
                        have q132 : x38_2 < (l0_0.length : Int) := of_decide_eq_true (by first | (with_reducible assumption) | assumption)
                        obtain ⟨ad132, e132, hx132_0, hx132_1⟩ := at_T44 HR0_0.out x38_2 p132 q132
                        cases e132
                        replace hx132_0 := (HB.out.cell (World.block_lt_of_cell? w _ hx132_0)).trans hx132_0
                        replace hx132_1 := (HB.out.cell (World.block_lt_of_cell? w _ hx132_1)).trans hx132_1
                        replace p132 := eq_true p132
                        replace q132 := eq_true q132
                        go_wp2_with (first | ((with_reducible refine gate_dst (N := 7) rfl ?_); refine zbox (N := 7) (cs := #[.int .u8 0, .int .u16 0]) (t := 44) ?_; intro gb133 hg w26 hbox hb; have n0_ := Aside0.mk (Kd.R_below (zr HO_4) hb); have n1_ := Aside0.mk (blk_below (g := gb121) (o := .cells #[.slice (some ad132) l0_0.length c0_0, .int .u8 a0_1, .int .u16 a0_2] 66 (0, 0)) zk hb); have n2_ := Aside0.mk (below_step (zb) hb); have n3_ := Aside0.mk (hbox); have n4_ := Aside0.mk ((by rw [hg]; exact (below_size (zb)) : w.heap.size ≤ gb133)); have n5_ := Aside0.mk ((by rw [hg]; exact (below_size (zb)) : w.heap.size ≤ gb133)); have n6_ := Aside0.mk ((by rw [hg]; exact Nat.ne_of_lt (blk_lt (g := gb121) (o := .cells #[.slice (some ad132) l0_0.length c0_0, .int .u8 a0_1, .int .u16 a0_2] 66 (0, 0)) zk) : gb121 ≠ gb133)); have n7_ := Aside0.mk ((by rw [hg]; exact Nat.ne_of_gt (blk_lt (g := gb121) (o := .cells #[.slice (some ad132) l0_0.length c0_0, .int .u8 a0_1, .int .u16 a0_2] 66 (0, 0)) zk) : gb133 ≠ gb121)); clear HO_4; clear BK121; clear HB; have HO_4 := n0_; have BK121 := n1_; have HB := n2_; have BK133 := n3_; have GW133 := n4_; have GE133 := n5_; have NB121_133 := n6_; have NB133_121 := n7_; clear n0_ n1_ n2_ n3_ n4_ n5_ n6_ n7_; clear hb hbox hg; have hnb27 := NB133_121.out; have hnc27 := NB121_133.out; obtain ⟨hcz28_0, hcz28_1⟩ := cells2 BK133.out; obtain ⟨hfz28_0, hfz28_1⟩ := froz2 BK133.out) | ((with_reducible refine gate_callee (f := 41) rfl ?_); refine goesL_ (some 44) rfl rfl Try.func41 (by kernel_rfl) rfl #[.agg #[.int .u8 ((rd_T44 l0_0 x38_2).f0), .int .u16 ((rd_T44 l0_0 x38_2).f1)]] rfl zargs ?_; (with_reducible refine (types_Put.calls k2 ((rd_T44 l0_0 x38_2).f0) ((rd_T44 l0_0 x38_2).f1) t134 t137 _ A23.out).mono ?_); rintro e w29 ⟨v135, rfl, ho0, hb⟩; refine ⟨_, rfl, ?_⟩; have n0_ := Aside0.mk (Kd.R_elder' (by (with_reducible repeat (first | apply Kd.R_alloc | apply Kd.R_drewN | apply Kd.R_drew)); exact (Kd.R_mono (Kd.R_far (p := ⟨gb133, 1, none⟩) (Kd.R_far (p := ⟨gb133, 0, none⟩) (Kd.R_types HO_4.out BK133.out (by decide)) (fun _ hk => hk.2) (.int .u8 ((rd_T44 l0_0 x38_2).f0))) (fun _ hk => hk.2) (.int .u16 ((rd_T44 l0_0 x38_2).f1))) (fun _ h_ => h_.1))) (Kd.R_base ho0) hb); have n1_ := Aside0.mk (Kd.R_lower (Kd.R_new' ho0 (Kd.R_lt (by (with_reducible repeat (first | apply Kd.R_alloc | apply Kd.R_drewN | apply Kd.R_drew)); exact (Kd.R_mono (Kd.R_far (p := ⟨gb133, 1, none⟩) (Kd.R_far (p := ⟨gb133, 0, none⟩) (Kd.R_types HO_4.out BK133.out (by decide)) (fun _ hk => hk.2) (.int .u8 ((rd_T44 l0_0 x38_2).f0))) (fun _ hk => hk.2) (.int .u16 ((rd_T44 l0_0 x38_2).f1))) (fun _ h_ => h_.1))))) (below_size (zb))); have n2_ := Aside0.mk (blk_below (g := gb121) (o := .cells #[.slice (some ad132) l0_0.length c0_0, .int .u8 a0_1, .int .u16 a0_2] 66 (0, 0)) (by (with_reducible repeat (first | refine blk_drewN ?_ _ | refine blk_drew ?_ | refine blk_alloc ?_ _)); refine blk_far ?_ NB121_133.out _; (with_reducible repeat (first | refine blk_drewN ?_ _ | refine blk_drew ?_ | refine blk_alloc ?_ _)); refine blk_far ?_ NB121_133.out _; (with_reducible repeat (first | refine blk_drewN ?_ _ | refine blk_drew ?_ | refine blk_alloc ?_ _)); exact BK121.out) hb); have n3_ := Aside0.mk (blk_below (g := gb133) (o := .cells #[.int .u8 ((rd_T44 l0_0 x38_2).f0), .int .u16 ((rd_T44 l0_0 x38_2).f1)] 44 (0, 0)) (by (with_reducible repeat (first | refine blk_drewN ?_ _ | refine blk_drew ?_ | refine blk_alloc ?_ _)); refine blk_put (cs := #[.int .u8 ((rd_T44 l0_0 x38_2).f0), .int .u16 0]) ?_ 1 _ rfl; (with_reducible repeat (first | refine blk_drewN ?_ _ | refine blk_drew ?_ | refine blk_alloc ?_ _)); refine blk_put (cs := #[.int .u8 0, .int .u16 0]) ?_ 0 _ rfl; (with_reducible repeat (first | refine blk_drewN ?_ _ | refine blk_drew ?_ | refine blk_alloc ?_ _)); exact BK133.out) hb); have n4_ := Aside0.mk (below_step (zb) hb); clear HO_4; clear BK121; clear BK133; clear HB; have HO_4 := n0_; have HO136 := n1_; have BK121 := n2_; have BK133 := n3_; have HB := n4_; clear n0_ n1_ n2_ n3_ n4_; (try clear hb); (try clear hb2); (try clear hk); (try clear hi); (try clear ho0); obtain ⟨Ao31, co31, eo31⟩ := Kd.R_slice HO136.out; subst eo31) | ((with_reducible refine gate_builtin (b := .append) (xs := #[.tmp 50, .tmp 51]) rfl ?_); at_builtin; refine Kd.R_append_rows (Kd.int .u8) (w0 := w) w.heap.size rfl (.tmp 50) (.tmp 51) 24 5 (.int .u8 0) 1 rfl Try.underlying24 info5 rfl (by decide) (by omega) u4 x4_2 t134 _ _ _ (fun k_ => some k_ ≠ (.slice Ao31 t134.length co31 : Value).ownBlock) (fun _ => False) rfl rfl ?aO ?aR (fun _ _ h => h) (fun _ h => h.elim) ?aF ?aB ?aS ?aL ?_; (case aR => repeat (first | exact (Kd.R_reads' HO136.out).2.2 | (with_reducible refine Kd.C_alloc ?_ _) | (with_reducible refine Kd.C_drewN ?_ _) | (with_reducible refine Kd.C_drew ?_))); (case aB => exact (zb)); (case aF => exact (fun k_ hk => Kd.fresh' (Kd.R_lt (zr HO136)) k_ hk)); (case aO => exact (by (with_reducible repeat (first | apply Kd.R_alloc | apply Kd.R_drewN | apply Kd.R_drew)); exact Kd.R_mono HO_4.out (fun _ hk => hk.2))); (case aS => exact (below_size (zb))); (case aL => have := LMc25.out; omega); intro v139 w30 ho hb hg hat; rw [← Ny138.out] at ho; have n0_ := Aside0.mk (blk_grown (g := gb121) (o := .cells #[.slice (some ad132) l0_0.length c0_0, .int .u8 a0_1, .int .u16 a0_2] 66 (0, 0)) zk hg (Kd.R_ne HO_4.out BK121.out (by decide))); have n1_ := Aside0.mk (blk_grown (g := gb133) (o := .cells #[.int .u8 ((rd_T44 l0_0 x38_2).f0), .int .u16 ((rd_T44 l0_0 x38_2).f1)] 44 (0, 0)) zk hg (Kd.R_ne HO_4.out BK133.out (by decide))); have n2_ := Aside0.mk (Kd.R_after (ok := (fun _ => True)) (zr HO136) hg hat); have n3_ := Aside0.mk (hb); have n4_ := Aside0.mk (ho); clear BK121; clear BK133; clear HO136; clear HB; clear HO_4; have BK121 := n0_; have BK133 := n1_; have HO136 := n2_; have HB := n3_; have HO140 := n4_; clear n0_ n1_ n2_ n3_ n4_; clear ho hb hg hat))
                        go_roundg k2
                        case measure => have := HJ1.out; have := HK2.out; omega
                        case rel => exact ⟨(y138), (wrap64 (x38_2 + 1)), zs, H', ⟨by have := HJ1.out; have := HK2.out; omega⟩, ⟨by (with_reducible repeat (first | apply Kd.R_alloc | apply Kd.R_drewN | apply Kd.R_drew)); exact Kd.R_mono HO140.out (fun _ hk => trivial)⟩, ⟨by (with_reducible repeat (first | refine blk_drewN ?_ _ | refine blk_drew ?_ | refine blk_alloc ?_ _)); exact BK121.out⟩, ⟨zb⟩⟩
                      · rw [if_neg c25] at H
                        exact absurd H (by simp)
                    · rw [if_neg c24] at H
                      have c24b0 : (t137 == 0) = false := beq_eq_false_iff_ne.mpr c24
                      have c24b1 : (t137 != 0) = true := bne_iff_ne.mpr c24
                      simp only [Option.some.injEq, Prod.mk.injEq] at H
                      obtain ⟨rfl, rfl⟩ := H
                      have p132 : 0 ≤ (x38_2 : Int) := of_decide_eq_true (by first | (with_reducible assumption) | assumption)
                      have q132 : x38_2 < (l0_0.length : Int) := of_decide_eq_true (by first | (with_reducible assumption) | assumption)
                      obtain ⟨ad132, e132, hx132_0, hx132_1⟩ := at_T44 HR0_0.out x38_2 p132 q132
                      cases e132
                      replace hx132_0 := (HB.out.cell (World.block_lt_of_cell? w _ hx132_0)).trans hx132_0
                      replace hx132_1 := (HB.out.cell (World.block_lt_of_cell? w _ hx132_1)).trans hx132_1
                      replace p132 := eq_true p132
                      replace q132 := eq_true q132
                      go_wp2_with (first | ((with_reducible refine gate_dst (N := 7) rfl ?_); refine zbox (N := 7) (cs := #[.int .u8 0, .int .u16 0]) (t := 44) ?_; intro gb133 hg w32 hbox hb; have n0_ := Aside0.mk (Kd.R_below (zr HO_4) hb); have n1_ := Aside0.mk (blk_below (g := gb121) (o := .cells #[.slice (some ad132) l0_0.length c0_0, .int .u8 a0_1, .int .u16 a0_2] 66 (0, 0)) zk hb); have n2_ := Aside0.mk (below_step (zb) hb); have n3_ := Aside0.mk (hbox); have n4_ := Aside0.mk ((by rw [hg]; exact (below_size (zb)) : w.heap.size ≤ gb133)); have n5_ := Aside0.mk ((by rw [hg]; exact (below_size (zb)) : w.heap.size ≤ gb133)); have n6_ := Aside0.mk ((by rw [hg]; exact Nat.ne_of_lt (blk_lt (g := gb121) (o := .cells #[.slice (some ad132) l0_0.length c0_0, .int .u8 a0_1, .int .u16 a0_2] 66 (0, 0)) zk) : gb121 ≠ gb133)); have n7_ := Aside0.mk ((by rw [hg]; exact Nat.ne_of_gt (blk_lt (g := gb121) (o := .cells #[.slice (some ad132) l0_0.length c0_0, .int .u8 a0_1, .int .u16 a0_2] 66 (0, 0)) zk) : gb133 ≠ gb121)); clear HO_4; clear BK121; clear HB; have HO_4 := n0_; have BK121 := n1_; have HB := n2_; have BK133 := n3_; have GW133 := n4_; have GE133 := n5_; have NB121_133 := n6_; have NB133_121 := n7_; clear n0_ n1_ n2_ n3_ n4_ n5_ n6_ n7_; clear hb hbox hg; have hnb33 := NB133_121.out; have hnc33 := NB121_133.out; obtain ⟨hcz34_0, hcz34_1⟩ := cells2 BK133.out; obtain ⟨hfz34_0, hfz34_1⟩ := froz2 BK133.out) | ((with_reducible refine gate_callee (f := 41) rfl ?_); refine goesL_ (some 44) rfl rfl Try.func41 (by kernel_rfl) rfl #[.agg #[.int .u8 ((rd_T44 l0_0 x38_2).f0), .int .u16 ((rd_T44 l0_0 x38_2).f1)]] rfl zargs ?_; (with_reducible refine (types_Put.calls k2 ((rd_T44 l0_0 x38_2).f0) ((rd_T44 l0_0 x38_2).f1) t134 t137 _ A23.out).mono ?_); rintro e w35 ⟨v135, rfl, ho0, hb⟩; refine ⟨_, rfl, ?_⟩; have n0_ := Aside0.mk (Kd.R_elder' (by (with_reducible repeat (first | apply Kd.R_alloc | apply Kd.R_drewN | apply Kd.R_drew)); exact (Kd.R_mono (Kd.R_far (p := ⟨gb133, 1, none⟩) (Kd.R_far (p := ⟨gb133, 0, none⟩) (Kd.R_types HO_4.out BK133.out (by decide)) (fun _ hk => hk.2) (.int .u8 ((rd_T44 l0_0 x38_2).f0))) (fun _ hk => hk.2) (.int .u16 ((rd_T44 l0_0 x38_2).f1))) (fun _ h_ => h_.1))) (Kd.R_base ho0) hb); have n1_ := Aside0.mk (Kd.R_lower (Kd.R_new' ho0 (Kd.R_lt (by (with_reducible repeat (first | apply Kd.R_alloc | apply Kd.R_drewN | apply Kd.R_drew)); exact (Kd.R_mono (Kd.R_far (p := ⟨gb133, 1, none⟩) (Kd.R_far (p := ⟨gb133, 0, none⟩) (Kd.R_types HO_4.out BK133.out (by decide)) (fun _ hk => hk.2) (.int .u8 ((rd_T44 l0_0 x38_2).f0))) (fun _ hk => hk.2) (.int .u16 ((rd_T44 l0_0 x38_2).f1))) (fun _ h_ => h_.1))))) (below_size (zb))); have n2_ := Aside0.mk (blk_below (g := gb121) (o := .cells #[.slice (some ad132) l0_0.length c0_0, .int .u8 a0_1, .int .u16 a0_2] 66 (0, 0)) (by (with_reducible repeat (first | refine blk_drewN ?_ _ | refine blk_drew ?_ | refine blk_alloc ?_ _)); refine blk_far ?_ NB121_133.out _; (with_reducible repeat (first | refine blk_drewN ?_ _ | refine blk_drew ?_ | refine blk_alloc ?_ _)); refine blk_far ?_ NB121_133.out _; (with_reducible repeat (first | refine blk_drewN ?_ _ | refine blk_drew ?_ | refine blk_alloc ?_ _)); exact BK121.out) hb); have n3_ := Aside0.mk (blk_below (g := gb133) (o := .cells #[.int .u8 ((rd_T44 l0_0 x38_2).f0), .int .u16 ((rd_T44 l0_0 x38_2).f1)] 44 (0, 0)) (by (with_reducible repeat (first | refine blk_drewN ?_ _ | refine blk_drew ?_ | refine blk_alloc ?_ _)); refine blk_put (cs := #[.int .u8 ((rd_T44 l0_0 x38_2).f0), .int .u16 0]) ?_ 1 _ rfl; (with_reducible repeat (first | refine blk_drewN ?_ _ | refine blk_drew ?_ | refine blk_alloc ?_ _)); refine blk_put (cs := #[.int .u8 0, .int .u16 0]) ?_ 0 _ rfl; (with_reducible repeat (first | refine blk_drewN ?_ _ | refine blk_drew ?_ | refine blk_alloc ?_ _)); exact BK133.out) hb); have n4_ := Aside0.mk (below_step (zb) hb); clear HO_4; clear BK121; clear BK133; clear HB; have HO_4 := n0_; have HO136 := n1_; have BK121 := n2_; have BK133 := n3_; have HB := n4_; clear n0_ n1_ n2_ n3_ n4_; (try clear hb); (try clear hb2); (try clear hk); (try clear hi); (try clear ho0)))
                      go_ret2
                      exact ⟨_, ze, by first | exact Kd.R_nil _ _ _ _ _ | exact Kd.N_nil _ _ _ _ _ | exact Kd.V_nil _ _ _ _ _ | exact Kd.Q_nil _ _ _ _ _ | exact Kd.S_nil _ _ _ _ _, zb⟩
                  · rw [if_neg c22] at H
                    exact absurd H (by simp)
                · rw [if_neg c21] at H
                  exact absurd H (by simp)
              · rw [if_neg c20] at H
                have c20b0 : decide (x38_2 < (l0_0.length : Int)) = false := decide_eq_false c20
                clear c20
                simp only [Option.some.injEq, Prod.mk.injEq] at H
                obtain ⟨rfl, rfl⟩ := H
                go_wp2
                go_ret2
                exact ⟨_, ze, by (with_reducible repeat (first | apply Kd.R_alloc | apply Kd.R_drewN | apply Kd.R_drew)); exact HO_4.out, zb⟩
        · rw [if_neg c16] at H
          exact absurd H (by simp)
/-- each, over types. -/
def each44 : Nat → List S44 → Option Bool
  | _, [] => some true
  | k, x :: r => (types_May.f k x.f0 x.f1).bind fun t => if t = true then each44 k r else some false
set_option maxHeartbeats 8000000 in
set_option maxRecDepth 100000 in
theorem each44.calls (k : Nat) (A0 : Option Addr) (c0 : Nat) (l0 : List S44) (r : Bool) (w : World) (hr0 : Kd.C k44 w A0 l0.length l0) (hc0 : l0.length ≤ c0) (h : (if l0.length > 255 then some false else each44 k l0) = some r) :
    Calls Try.prog 29 #[.slice A0 l0.length c0, .func (.func 30) #[] #[]] w fun e w' => e = .returned (.bool r) ∧ Below w.heap.size w w' := by
  have HR0 := Aside0.mk hr0
  have HC0 := Aside0.mk hc0
  clear hr0 hc0
  have HB := Aside0.mk (Below.refl w.heap.size w)
  have hu44 := Try.underlying44
  have hu34 := Try.underlying34
  by_cases c1 : l0.length > 255
  · rw [if_pos c1] at h
    obtain rfl := Option.some.inj h
    have c1b0 : decide (255 < (l0.length : Int)) = true := decide_eq_true (by omega)
    have c1b1 : decide (255 < l0.length) = true := decide_eq_true c1
    clear c1 h
    go_enter Try.func29, Try.ntmps29
    go_wp2
    go_ret
    exact ⟨rfl, zb⟩
  · rw [if_neg c1] at h
    have c1b0 : decide (255 < (l0.length : Int)) = false := decide_eq_false (by omega)
    have c1b1 : decide (255 < l0.length) = false := decide_eq_false c1
    have C1 := Aside0.mk c1
    have H0 := Aside0.mk h
    clear c1 h
    go_enter Try.func29, Try.ntmps29
    go_wp2
    go_loopg [12] l0.length (fun kq v12 w' => ∃ x : Int, v12 = .int .i64 x ∧ Aside0 (0 ≤ x ∧ (kq : Int) + x = l0.length) ∧ Aside0 (each44 k (l0.drop x.toNat) = some r) ∧ Aside0 (Below w.heap.size w w'))
    case atStart => exact ⟨0, rfl, ⟨by simp⟩, H0, ⟨zb⟩⟩
    case round =>
      clear HB H0
      obtain ⟨x, rfl, HI, HA, HB⟩ := hrel
      cases gk with
      | zero =>
        have e4 : x = (l0.length : Int) := by have := HI.out; omega
        have hA := HA.out
        rw [List.drop_eq_nil_of_le (by omega)] at hA
        unfold each44 at hA
        obtain rfl := Option.some.inj hA
        have c2 : decide (x < (l0.length : Int)) = false := decide_eq_false (by omega)
        clear e4 hA
        go_wp2
        go_ret
        exact ⟨rfl, zb⟩
      | succ k1 =>
        have p1 : 0 ≤ x := HI.out.1
        have p2 : x < (l0.length : Int) := by have := HI.out; omega
        have c2 : decide (x < (l0.length : Int)) = true := decide_eq_true p2
        have hw : wrap64 (x + 1) = x + 1 := by have := HI.out; have := C1.out; unfold wrap64; omega
        have HW := Aside0.mk hw
        clear hw
        have hd_ : l0.drop x.toNat = (rd_T44 l0 x) :: l0.drop (x.toNat + 1) := by
          rw [List.drop_eq_getElem_cons (by omega)]
          congr 1
          simp only [rd_T44]
          rw [List.getD_eq_getElem?_getD, List.getElem?_eq_getElem (by omega), Option.getD_some]
        have hA := HA.out
        rw [hd_] at hA
        unfold each44 at hA
        clear HA hd_
        obtain ⟨ad, e0_, hx0, hx1⟩ := at_T44 (Kd.C_below HR0.out HB.out) x p1 p2
        cases e0_
        obtain ⟨e_, he_⟩ : ∃ s_ : S44, s_ = rd_T44 l0 x := ⟨_, rfl⟩
        rw [← he_] at hA hx0 hx1
        clear he_
        obtain ⟨t, ht, hA⟩ := Option.bind_eq_some_iff.mp hA
        have HT := Aside0.mk ht
        have HA := Aside0.mk hA
        clear ht hA
        replace p1 := eq_true p1
        replace p2 := eq_true p2
        cases t with
        | false =>
          have hA := HA.out
          rw [if_neg (by decide)] at hA
          obtain rfl := Option.some.inj hA
          clear hA
          go_wp2_with (first | (go_at_call 30; (with_reducible refine (types_May.calls k e_.f0 e_.f1 false _ HT.out).mono ?_); rintro e w1 ⟨rfl, hb⟩; have n1_ := Aside0.mk (below_step (zb) hb); clear HB hb; have HB := n1_; clear n1_))
          go_ret
          exact ⟨rfl, zb⟩
        | true =>
          have hA := HA.out
          rw [if_pos rfl] at hA
          have HA2 := Aside0.mk hA
          clear hA HA
          go_wp2_with (first | (go_at_call 30; (with_reducible refine (types_May.calls k e_.f0 e_.f1 true _ HT.out).mono ?_); rintro e w1 ⟨rfl, hb⟩; have n1_ := Aside0.mk (below_step (zb) hb); clear HB hb; have HB := n1_; clear n1_))
          go_roundg k1
          case measure => omega
          case rel => exact ⟨x + 1, by rw [HW.out], ⟨by have := HI.out; omega⟩, ⟨by rw [show (x + 1).toNat = x.toNat + 1 from by have := HI.out; omega]; exact HA2.out⟩, ⟨zb⟩⟩
/-- the literal of class.May: a map of at most 255. -/
theorem lit32.calls (f0 : Int) (A1 : Option Addr) (n c1 : Nat) (w : World) :
    Calls Try.prog 32 #[.agg #[.int .u16 f0, .slice A1 n c1]] w fun e w' => e = .returned (.bool (decide (n ≤ 255))) ∧ Below w.heap.size w w' := by
  have HB := Aside0.mk (Below.refl w.heap.size w)
  have hu41 := Try.underlying41
  by_cases c1_ : n ≤ 255
  · have e1 : decide ((n : Int) ≤ 255) = true := decide_eq_true (by omega)
    have e2 : decide (n ≤ 255) = true := decide_eq_true c1_
    rw [e2]
    clear c1_
    go_enter Try.func32, Try.ntmps32
    go_wp2
    go_ret
    exact ⟨by first | rfl | (simp; done) | (simp [*]; done), zb⟩
  · have e1 : decide ((n : Int) ≤ 255) = false := decide_eq_false (by omega)
    have e2 : decide (n ≤ 255) = false := decide_eq_false c1_
    rw [e2]
    clear c1_
    go_enter Try.func32, Try.ntmps32
    go_wp2
    go_ret
    exact ⟨by first | rfl | (simp; done) | (simp [*]; done), zb⟩
/-- each, over interfaces. -/
def each41 : List S41 → Option Bool
  | [] => some true
  | x :: r => if decide (x.f1.length ≤ 255) = true then each41 r else some false
set_option maxHeartbeats 8000000 in
set_option maxRecDepth 100000 in
theorem each41.calls (A0 : Option Addr) (c0 : Nat) (l0 : List S41) (r : Bool) (w : World) (hr0 : Kd.C k41 w A0 l0.length l0) (hc0 : l0.length ≤ c0) (h : (if l0.length > 255 then some false else each41 l0) = some r) :
    Calls Try.prog 31 #[.slice A0 l0.length c0, .func (.func 32) #[] #[]] w fun e w' => e = .returned (.bool r) ∧ Below w.heap.size w w' := by
  have HR0 := Aside0.mk hr0
  have HC0 := Aside0.mk hc0
  clear hr0 hc0
  have HB := Aside0.mk (Below.refl w.heap.size w)
  have hu41 := Try.underlying41
  have hu33 := Try.underlying33
  by_cases c1 : l0.length > 255
  · rw [if_pos c1] at h
    obtain rfl := Option.some.inj h
    have c1b0 : decide (255 < (l0.length : Int)) = true := decide_eq_true (by omega)
    have c1b1 : decide (255 < l0.length) = true := decide_eq_true c1
    clear c1 h
    go_enter Try.func31, Try.ntmps31
    go_wp2
    go_ret
    exact ⟨rfl, zb⟩
  · rw [if_neg c1] at h
    have c1b0 : decide (255 < (l0.length : Int)) = false := decide_eq_false (by omega)
    have c1b1 : decide (255 < l0.length) = false := decide_eq_false c1
    have C1 := Aside0.mk c1
    have H0 := Aside0.mk h
    clear c1 h
    go_enter Try.func31, Try.ntmps31
    go_wp2
    go_loopg [12] l0.length (fun kq v12 w' => ∃ x : Int, v12 = .int .i64 x ∧ Aside0 (0 ≤ x ∧ (kq : Int) + x = l0.length) ∧ Aside0 (each41 (l0.drop x.toNat) = some r) ∧ Aside0 (Below w.heap.size w w'))
    case atStart => exact ⟨0, rfl, ⟨by simp⟩, H0, ⟨zb⟩⟩
    case round =>
      clear HB H0
      obtain ⟨x, rfl, HI, HA, HB⟩ := hrel
      cases gk with
      | zero =>
        have e4 : x = (l0.length : Int) := by have := HI.out; omega
        have hA := HA.out
        rw [List.drop_eq_nil_of_le (by omega)] at hA
        unfold each41 at hA
        obtain rfl := Option.some.inj hA
        have c2 : decide (x < (l0.length : Int)) = false := decide_eq_false (by omega)
        clear e4 hA
        go_wp2
        go_ret
        exact ⟨rfl, zb⟩
      | succ k1 =>
        have p1 : 0 ≤ x := HI.out.1
        have p2 : x < (l0.length : Int) := by have := HI.out; omega
        have c2 : decide (x < (l0.length : Int)) = true := decide_eq_true p2
        have hw : wrap64 (x + 1) = x + 1 := by have := HI.out; have := C1.out; unfold wrap64; omega
        have HW := Aside0.mk hw
        clear hw
        have hd_ : l0.drop x.toNat = (rd_T41 l0 x) :: l0.drop (x.toNat + 1) := by
          rw [List.drop_eq_getElem_cons (by omega)]
          congr 1
          simp only [rd_T41]
          rw [List.getD_eq_getElem?_getD, List.getElem?_eq_getElem (by omega), Option.getD_some]
        have hA := HA.out
        rw [hd_] at hA
        unfold each41 at hA
        clear HA hd_
        obtain ⟨ad, A1, c1, e0_, hx0, hx1, _, _⟩ := at_T41 (Kd.C_below HR0.out HB.out) x p1 p2
        cases e0_
        obtain ⟨e_, he_⟩ : ∃ s_ : S41, s_ = rd_T41 l0 x := ⟨_, rfl⟩
        rw [← he_] at hA hx0 hx1
        clear he_
        obtain ⟨t, ht⟩ : ∃ t_ : Bool, decide (e_.f1.length ≤ 255) = t_ := ⟨_, rfl⟩
        rw [ht] at hA
        have HT := Aside0.mk ht
        have HA := Aside0.mk hA
        clear ht hA
        replace p1 := eq_true p1
        replace p2 := eq_true p2
        cases t with
        | false =>
          have hA := HA.out
          rw [if_neg (by decide)] at hA
          obtain rfl := Option.some.inj hA
          clear hA
          go_wp2_with (first | (go_at_call 32; (with_reducible refine (lit32.calls e_.f0 A1 e_.f1.length c1 _).mono ?_); rintro e w1 ⟨rfl, hb⟩; rw [HT.out]; have n1_ := Aside0.mk (below_step (zb) hb); clear HB hb; have HB := n1_; clear n1_))
          go_ret
          exact ⟨rfl, zb⟩
        | true =>
          have hA := HA.out
          rw [if_pos rfl] at hA
          have HA2 := Aside0.mk hA
          clear hA HA
          go_wp2_with (first | (go_at_call 32; (with_reducible refine (lit32.calls e_.f0 A1 e_.f1.length c1 _).mono ?_); rintro e w1 ⟨rfl, hb⟩; rw [HT.out]; have n1_ := Aside0.mk (below_step (zb) hb); clear HB hb; have HB := n1_; clear n1_))
          go_roundg k1
          case measure => omega
          case rel => exact ⟨x + 1, by rw [HW.out], ⟨by have := HI.out; omega⟩, ⟨by rw [show (x + 1).toNat = x.toNat + 1 from by have := HI.out; omega]; exact HA2.out⟩, ⟨zb⟩⟩
/-- the literal of class.May: a signature that can be put. -/
theorem lit26.calls (k : Nat) (A0 : Option Addr) (c0 : Nat) (l0 : List S44) (f1 f2 : Int) (r1 : List Int) (r2 : Int) (w : World) (hr0 : Kd.C k44 w A0 l0.length l0) (hc0 : l0.length ≤ c0) (h : types_PutSig.f k l0 f1 f2 = some (r1, r2)) :
    Calls Try.prog 26 #[.agg #[.slice A0 l0.length c0, .int .u8 f1, .int .u16 f2]] w fun e w' => e = .returned (.bool (r2 == 0)) ∧ Below w.heap.size w w' := by
  have HB := Aside0.mk (Below.refl w.heap.size w)
  have HR0 := Aside0.mk hr0
  have HC0 := Aside0.mk hc0
  have HP := Aside0.mk h
  clear hr0 hc0 h
  have hu66 := Try.underlying66
  have hu44 := Try.underlying44
  obtain ⟨b, hb_⟩ : ∃ b_ : Bool, b_ = (r2 == 0) := ⟨_, rfl⟩
  rw [← hb_]
  have e0 : (r2 == 0) = b := hb_.symm
  clear hb_
  go_enter Try.func26, Try.ntmps26
  go_wp2_with (first | (go_at_call 27; (with_reducible refine (types_PutSig.calls k A0 c0 l0 f1 f2 r1 r2 _ ?s1 HC0.out HP.out).mono ?_); (case s1 => first | exact HR0.out | exact Kd.C_below HR0.out HB.out | exact Kd.C_alloc HR0.out _); rintro e w1 ⟨v0, rfl, ho, hb⟩; have n1_ := Aside0.mk (below_step (zb) hb); clear HB hb ho; have HB := n1_; clear n1_))
  go_ret
  exact ⟨by first | rfl | (simp; done) | (simp [*]; done), zb⟩
/-- each, over signatures. -/
def each66 : Nat → List S66 → Option Bool
  | _, [] => some true
  | k, x :: r => (types_PutSig.f k x.f0 x.f1.f0 x.f1.f1).bind fun t => if (t.2 == 0) = true then each66 k r else some false
set_option maxHeartbeats 8000000 in
set_option maxRecDepth 100000 in
theorem each66.calls (k : Nat) (A0 : Option Addr) (c0 : Nat) (l0 : List S66) (r : Bool) (w : World) (hr0 : Kd.C k66 w A0 l0.length l0) (hc0 : l0.length ≤ c0) (h : (if l0.length > 255 then some false else each66 k l0) = some r) :
    Calls Try.prog 28 #[.slice A0 l0.length c0, .func (.func 26) #[] #[]] w fun e w' => e = .returned (.bool r) ∧ Below w.heap.size w w' := by
  have HR0 := Aside0.mk hr0
  have HC0 := Aside0.mk hc0
  clear hr0 hc0
  have HB := Aside0.mk (Below.refl w.heap.size w)
  have hu66 := Try.underlying66
  have hu44 := Try.underlying44
  have hu36 := Try.underlying36
  by_cases c1 : l0.length > 255
  · rw [if_pos c1] at h
    obtain rfl := Option.some.inj h
    have c1b0 : decide (255 < (l0.length : Int)) = true := decide_eq_true (by omega)
    have c1b1 : decide (255 < l0.length) = true := decide_eq_true c1
    clear c1 h
    go_enter Try.func28, Try.ntmps28
    go_wp2
    go_ret
    exact ⟨rfl, zb⟩
  · rw [if_neg c1] at h
    have c1b0 : decide (255 < (l0.length : Int)) = false := decide_eq_false (by omega)
    have c1b1 : decide (255 < l0.length) = false := decide_eq_false c1
    have C1 := Aside0.mk c1
    have H0 := Aside0.mk h
    clear c1 h
    go_enter Try.func28, Try.ntmps28
    go_wp2
    go_loopg [12] l0.length (fun kq v12 w' => ∃ x : Int, v12 = .int .i64 x ∧ Aside0 (0 ≤ x ∧ (kq : Int) + x = l0.length) ∧ Aside0 (each66 k (l0.drop x.toNat) = some r) ∧ Aside0 (Below w.heap.size w w'))
    case atStart => exact ⟨0, rfl, ⟨by simp⟩, H0, ⟨zb⟩⟩
    case round =>
      clear HB H0
      obtain ⟨x, rfl, HI, HA, HB⟩ := hrel
      cases gk with
      | zero =>
        have e4 : x = (l0.length : Int) := by have := HI.out; omega
        have hA := HA.out
        rw [List.drop_eq_nil_of_le (by omega)] at hA
        unfold each66 at hA
        obtain rfl := Option.some.inj hA
        have c2 : decide (x < (l0.length : Int)) = false := decide_eq_false (by omega)
        clear e4 hA
        go_wp2
        go_ret
        exact ⟨rfl, zb⟩
      | succ k1 =>
        have p1 : 0 ≤ x := HI.out.1
        have p2 : x < (l0.length : Int) := by have := HI.out; omega
        have c2 : decide (x < (l0.length : Int)) = true := decide_eq_true p2
        have hw : wrap64 (x + 1) = x + 1 := by have := HI.out; have := C1.out; unfold wrap64; omega
        have HW := Aside0.mk hw
        clear hw
        have hd_ : l0.drop x.toNat = (rd_T66 l0 x) :: l0.drop (x.toNat + 1) := by
          rw [List.drop_eq_getElem_cons (by omega)]
          congr 1
          simp only [rd_T66]
          rw [List.getD_eq_getElem?_getD, List.getElem?_eq_getElem (by omega), Option.getD_some]
        have hA := HA.out
        rw [hd_] at hA
        unfold each66 at hA
        clear HA hd_
        obtain ⟨ad, A1, c1, e0_, hx0, hx1, hx2, hl1, hc1⟩ := at_T66 (Kd.C_below HR0.out HB.out) x p1 p2
        cases e0_
        obtain ⟨e_, he_⟩ : ∃ s_ : S66, s_ = rd_T66 l0 x := ⟨_, rfl⟩
        rw [← he_] at hA hx0 hx1 hx2 hl1 hc1
        have HL1 := Aside0.mk hl1
        have HC1 := Aside0.mk hc1
        clear hl1 hc1
        clear he_
        obtain ⟨⟨q1, q2⟩, ht, hA⟩ := Option.bind_eq_some_iff.mp hA
        have HT := Aside0.mk ht
        replace hA : (if (q2 == 0) = true then each66 k (l0.drop (x.toNat + 1)) else some false) = some r := hA
        obtain ⟨t, hq_⟩ : ∃ t_ : Bool, (q2 == 0) = t_ := ⟨_, rfl⟩
        rw [hq_] at hA
        have HQ := Aside0.mk hq_
        clear hq_
        have HA := Aside0.mk hA
        clear ht hA
        replace p1 := eq_true p1
        replace p2 := eq_true p2
        cases t with
        | false =>
          have hA := HA.out
          rw [if_neg (by decide)] at hA
          obtain rfl := Option.some.inj hA
          clear hA
          go_wp2_with (first | (go_at_call 26; (with_reducible refine (lit26.calls k A1 c1 e_.f0 e_.f1.f0 e_.f1.f1 q1 q2 _ ?s1 HL1.out HT.out).mono ?_); (case s1 => first | exact HC1.out | exact Kd.C_alloc HC1.out _); rintro e w1 ⟨rfl, hb⟩; rw [HQ.out]; have n1_ := Aside0.mk (below_step (zb) hb); clear HB hb; have HB := n1_; clear n1_))
          go_ret
          exact ⟨rfl, zb⟩
        | true =>
          have hA := HA.out
          rw [if_pos rfl] at hA
          have HA2 := Aside0.mk hA
          clear hA HA
          go_wp2_with (first | (go_at_call 26; (with_reducible refine (lit26.calls k A1 c1 e_.f0 e_.f1.f0 e_.f1.f1 q1 q2 _ ?s1 HL1.out HT.out).mono ?_); (case s1 => first | exact HC1.out | exact Kd.C_alloc HC1.out _); rintro e w1 ⟨rfl, hb⟩; rw [HQ.out]; have n1_ := Aside0.mk (below_step (zb) hb); clear HB hb; have HB := n1_; clear n1_))
          go_roundg k1
          case measure => omega
          case rel => exact ⟨x + 1, by rw [HW.out], ⟨by have := HI.out; omega⟩, ⟨by rw [show (x + 1).toNat = x.toNat + 1 from by have := HI.out; omega]; exact HA2.out⟩, ⟨zb⟩⟩
-- NOT PRINTED: function 28 (api_Sig_28)
-- NOT PRINTED: function 29 (api_Type_29)
-- NOT PRINTED: function 31 (api_Iface_31)
def class_May.f (a0_0 : Int) (a0_1 : Int) (l0_2 : List (S41)) (l0_3 : List (S44)) (l0_4 : List Int) (l0_5 : List (S66)) : Option (Bool) := if Go.bits .andNot .u8 a0_0 7 = 0 then (if Go.bits .and .u8 a0_0 1 = 0 then (if l0_5.length = 0 then (if l0_2.length ≤ 16 then (if l0_4.length ≤ 255 then ((if l0_3.length > 255 then some false else each44 5 l0_3).bind fun t => if t = true then (if l0_2.length > 255 then some false else each41 l0_2) else some false) else some false) else some false) else some false) else (if Go.bits .and .u8 a0_0 4 = 0 then (if a0_1 = 65535 then (if wrap64 (wrap64 ((l0_2.length : Int) + (l0_3.length : Int)) + (l0_4.length : Int)) = 0 then (if l0_5.length > 255 then some false else each66 60 l0_5) else some false) else some false) else some false)) else some false
set_option maxHeartbeats 8000000 in
set_option maxRecDepth 100000 in
theorem class_May.calls (a0_0 : Int) (a0_1 : Int) (A0_2 : Option Addr) (c0_2 : Nat) (l0_2 : List (S41)) (A0_3 : Option Addr) (c0_3 : Nat) (l0_3 : List (S44)) (A0_4 : Option Addr) (c0_4 : Nat) (l0_4 : List Int) (A0_5 : Option Addr) (c0_5 : Nat) (l0_5 : List (S66)) (r : Bool) (w : World) (hr0_2 : Kd.C k41 w A0_2 l0_2.length l0_2) (hc0_2 : l0_2.length ≤ c0_2) (hr0_3 : Kd.C k44 w A0_3 l0_3.length l0_3) (hc0_3 : l0_3.length ≤ c0_3) (hr0_4 : Kd.C (Kd.int .u16) w A0_4 l0_4.length l0_4) (hc0_4 : l0_4.length ≤ c0_4) (hr0_5 : Kd.C k66 w A0_5 l0_5.length l0_5) (hc0_5 : l0_5.length ≤ c0_5) (h : class_May.f a0_0 a0_1 l0_2 l0_3 l0_4 l0_5 = some r) :
    Calls Try.prog 15 #[.agg #[.int .u8 a0_0, .int .u16 a0_1, .slice A0_2 l0_2.length c0_2, .slice A0_3 l0_3.length c0_3, .slice A0_4 l0_4.length c0_4, .slice A0_5 l0_5.length c0_5]] w fun e w' => e = .returned (.bool r) ∧ Below w.heap.size w w' := by
  have hu38 := Try.underlying38
  have hu33 := Try.underlying33
  have hu34 := Try.underlying34
  have hu35 := Try.underlying35
  have hu36 := Try.underlying36
  have HR0_2 := Aside0.mk hr0_2
  have HC0_2 := Aside0.mk hc0_2
  clear hr0_2 hc0_2
  have HR0_3 := Aside0.mk hr0_3
  have HC0_3 := Aside0.mk hc0_3
  clear hr0_3 hc0_3
  have HR0_4 := Aside0.mk hr0_4
  have HC0_4 := Aside0.mk hc0_4
  clear hr0_4 hc0_4
  have HR0_5 := Aside0.mk hr0_5
  have HC0_5 := Aside0.mk hc0_5
  clear hr0_5 hc0_5
  have HB := Aside0.mk (Below.refl w.heap.size w)
  unfold class_May.f at h
  by_cases c1 : Go.bits .andNot .u8 a0_0 7 = 0
  rotate_left
  · rw [if_neg c1] at h
    obtain rfl := Option.some.inj h
    have c1b0 : (Go.bits .andNot .u8 a0_0 7 == 0) = false := beq_eq_false_iff_ne.mpr c1
    have c1b1 : (Go.bits .andNot .u8 a0_0 7 != 0) = true := bne_iff_ne.mpr c1
    clear c1 h
    go_enter Try.func15, Try.ntmps15
    go_wp2_with (first | ((with_reducible refine gate_dst (N := 1) rfl ?_); refine zbox (N := 1) (cs := #[.int .u8 a0_0, .int .u16 a0_1, .slice A0_2 l0_2.length c0_2, .slice A0_3 l0_3.length c0_3, .slice A0_4 l0_4.length c0_4, .slice A0_5 l0_5.length c0_5]) (t := 38) ?_; intro gb hg w2 hbox hb; have n0_ := Aside0.mk (below_step (zb) hb); have BK := Aside0.mk (hbox); clear HB; have HB := n0_; clear n0_; clear hb hbox hg; obtain ⟨q0, q1, q2, q3, q4, q5⟩ := cells6 BK.out))
    go_ret
    exact ⟨by first | rfl | (simp; done) | (simp [*]; done), zb⟩
  rw [if_pos c1] at h
  have c1b0 : (Go.bits .andNot .u8 a0_0 7 == 0) = true := beq_iff_eq.mpr c1
  have c1b1 : (Go.bits .andNot .u8 a0_0 7 != 0) = false := bne_eq_false_iff_eq.mpr c1
  clear c1
  by_cases c2 : Go.bits .and .u8 a0_0 1 = 0
  · rw [if_pos c2] at h
    have c2b0 : (Go.bits .and .u8 a0_0 1 == 0) = true := beq_iff_eq.mpr c2
    have c2b1 : (Go.bits .and .u8 a0_0 1 != 0) = false := bne_eq_false_iff_eq.mpr c2
    clear c2
    by_cases c3 : l0_5.length = 0
    rotate_left
    · rw [if_neg c3] at h
      obtain rfl := Option.some.inj h
      have c3b0 : ((l0_5.length : Int) == 0) = false := by rw [beq_eq_false_iff_ne]; omega
      have c3b1 : (l0_5.length == 0) = false := by rw [beq_eq_false_iff_ne]; exact c3
      clear c3 h
      go_enter Try.func15, Try.ntmps15
      go_wp2_with (first | ((with_reducible refine gate_dst (N := 1) rfl ?_); refine zbox (N := 1) (cs := #[.int .u8 a0_0, .int .u16 a0_1, .slice A0_2 l0_2.length c0_2, .slice A0_3 l0_3.length c0_3, .slice A0_4 l0_4.length c0_4, .slice A0_5 l0_5.length c0_5]) (t := 38) ?_; intro gb hg w2 hbox hb; have n0_ := Aside0.mk (below_step (zb) hb); have BK := Aside0.mk (hbox); clear HB; have HB := n0_; clear n0_; clear hb hbox hg; obtain ⟨q0, q1, q2, q3, q4, q5⟩ := cells6 BK.out))
      go_ret
      exact ⟨by first | rfl | (simp; done) | (simp [*]; done), zb⟩
    rw [if_pos c3] at h
    have c3b0 : ((l0_5.length : Int) == 0) = true := by rw [c3]; rfl
    have c3b1 : (l0_5.length == 0) = true := by rw [c3]; rfl
    clear c3
    by_cases c4 : l0_2.length ≤ 16
    rotate_left
    · rw [if_neg c4] at h
      obtain rfl := Option.some.inj h
      have c4b0 : decide ((l0_2.length : Int) ≤ 16) = false := decide_eq_false (by omega)
      have c4b1 : decide (l0_2.length ≤ 16) = false := decide_eq_false c4
      clear c4 h
      go_enter Try.func15, Try.ntmps15
      go_wp2_with (first | ((with_reducible refine gate_dst (N := 1) rfl ?_); refine zbox (N := 1) (cs := #[.int .u8 a0_0, .int .u16 a0_1, .slice A0_2 l0_2.length c0_2, .slice A0_3 l0_3.length c0_3, .slice A0_4 l0_4.length c0_4, .slice A0_5 l0_5.length c0_5]) (t := 38) ?_; intro gb hg w2 hbox hb; have n0_ := Aside0.mk (below_step (zb) hb); have BK := Aside0.mk (hbox); clear HB; have HB := n0_; clear n0_; clear hb hbox hg; obtain ⟨q0, q1, q2, q3, q4, q5⟩ := cells6 BK.out))
      go_ret
      exact ⟨by first | rfl | (simp; done) | (simp [*]; done), zb⟩
    rw [if_pos c4] at h
    have c4b0 : decide ((l0_2.length : Int) ≤ 16) = true := decide_eq_true (by omega)
    have c4b1 : decide (l0_2.length ≤ 16) = true := decide_eq_true c4
    clear c4
    by_cases c5 : l0_4.length ≤ 255
    rotate_left
    · rw [if_neg c5] at h
      obtain rfl := Option.some.inj h
      have c5b0 : decide ((l0_4.length : Int) ≤ 255) = false := decide_eq_false (by omega)
      have c5b1 : decide (l0_4.length ≤ 255) = false := decide_eq_false c5
      clear c5 h
      go_enter Try.func15, Try.ntmps15
      go_wp2_with (first | ((with_reducible refine gate_dst (N := 1) rfl ?_); refine zbox (N := 1) (cs := #[.int .u8 a0_0, .int .u16 a0_1, .slice A0_2 l0_2.length c0_2, .slice A0_3 l0_3.length c0_3, .slice A0_4 l0_4.length c0_4, .slice A0_5 l0_5.length c0_5]) (t := 38) ?_; intro gb hg w2 hbox hb; have n0_ := Aside0.mk (below_step (zb) hb); have BK := Aside0.mk (hbox); clear HB; have HB := n0_; clear n0_; clear hb hbox hg; obtain ⟨q0, q1, q2, q3, q4, q5⟩ := cells6 BK.out))
      go_ret
      exact ⟨by first | rfl | (simp; done) | (simp [*]; done), zb⟩
    rw [if_pos c5] at h
    have c5b0 : decide ((l0_4.length : Int) ≤ 255) = true := decide_eq_true (by omega)
    have c5b1 : decide (l0_4.length ≤ 255) = true := decide_eq_true c5
    clear c5
    obtain ⟨t, ht, h⟩ := Option.bind_eq_some_iff.mp h
    have HT := Aside0.mk ht
    clear ht
    cases t with
    | false =>
      rw [if_neg (by decide)] at h
      obtain rfl := Option.some.inj h
      clear h
      go_enter Try.func15, Try.ntmps15
      go_wp2_with (first | ((with_reducible refine gate_dst (N := 1) rfl ?_); refine zbox (N := 1) (cs := #[.int .u8 a0_0, .int .u16 a0_1, .slice A0_2 l0_2.length c0_2, .slice A0_3 l0_3.length c0_3, .slice A0_4 l0_4.length c0_4, .slice A0_5 l0_5.length c0_5]) (t := 38) ?_; intro gb hg w2 hbox hb; have n0_ := Aside0.mk (below_step (zb) hb); have BK := Aside0.mk (hbox); clear HB; have HB := n0_; clear n0_; clear hb hbox hg; obtain ⟨q0, q1, q2, q3, q4, q5⟩ := cells6 BK.out) | (go_at_call 29; (with_reducible refine (each44.calls 5 _ _ l0_3 false _ ?s1 HC0_3.out HT.out).mono ?_); (case s1 => first | exact HR0_3.out | exact Kd.C_below HR0_3.out HB.out); rintro e w3 ⟨rfl, hb⟩; have n1_ := Aside0.mk (below_step (zb) hb); have n2_ := Aside0.mk (blk_below BK.out hb); clear HB BK hb q0 q1 q2 q3 q4 q5; have HB := n1_; have BK := n2_; clear n1_ n2_; obtain ⟨q0, q1, q2, q3, q4, q5⟩ := cells6 BK.out))
      go_ret
      exact ⟨by first | rfl | (simp; done) | (simp [*]; done), zb⟩
    | true =>
      rw [if_pos rfl] at h
      have HA := Aside0.mk h
      clear h
      go_enter Try.func15, Try.ntmps15
      go_wp2_with (first | ((with_reducible refine gate_dst (N := 1) rfl ?_); refine zbox (N := 1) (cs := #[.int .u8 a0_0, .int .u16 a0_1, .slice A0_2 l0_2.length c0_2, .slice A0_3 l0_3.length c0_3, .slice A0_4 l0_4.length c0_4, .slice A0_5 l0_5.length c0_5]) (t := 38) ?_; intro gb hg w2 hbox hb; have n0_ := Aside0.mk (below_step (zb) hb); have BK := Aside0.mk (hbox); clear HB; have HB := n0_; clear n0_; clear hb hbox hg; obtain ⟨q0, q1, q2, q3, q4, q5⟩ := cells6 BK.out) | (go_at_call 29; (with_reducible refine (each44.calls 5 _ _ l0_3 true _ ?s1 HC0_3.out HT.out).mono ?_); (case s1 => first | exact HR0_3.out | exact Kd.C_below HR0_3.out HB.out); rintro e w3 ⟨rfl, hb⟩; have n1_ := Aside0.mk (below_step (zb) hb); have n2_ := Aside0.mk (blk_below BK.out hb); clear HB BK hb q0 q1 q2 q3 q4 q5; have HB := n1_; have BK := n2_; clear n1_ n2_; obtain ⟨q0, q1, q2, q3, q4, q5⟩ := cells6 BK.out) | (go_at_call 31; (with_reducible refine (each41.calls _ _ l0_2 r _ ?s1 HC0_2.out HA.out).mono ?_); (case s1 => first | exact HR0_2.out | exact Kd.C_below HR0_2.out HB.out); rintro e w4 ⟨rfl, hb⟩; have n1_ := Aside0.mk (below_step (zb) hb); have n2_ := Aside0.mk (blk_below BK.out hb); clear HB BK hb q0 q1 q2 q3 q4 q5; have HB := n1_; have BK := n2_; clear n1_ n2_; obtain ⟨q0, q1, q2, q3, q4, q5⟩ := cells6 BK.out))
      go_ret
      exact ⟨by first | rfl | (simp; done) | (simp [*]; done), zb⟩
  · rw [if_neg c2] at h
    have c2b0 : (Go.bits .and .u8 a0_0 1 == 0) = false := beq_eq_false_iff_ne.mpr c2
    have c2b1 : (Go.bits .and .u8 a0_0 1 != 0) = true := bne_iff_ne.mpr c2
    clear c2
    by_cases c3 : Go.bits .and .u8 a0_0 4 = 0
    rotate_left
    · rw [if_neg c3] at h
      obtain rfl := Option.some.inj h
      have c3b0 : (Go.bits .and .u8 a0_0 4 == 0) = false := beq_eq_false_iff_ne.mpr c3
      have c3b1 : (Go.bits .and .u8 a0_0 4 != 0) = true := bne_iff_ne.mpr c3
      clear c3 h
      go_enter Try.func15, Try.ntmps15
      go_wp2_with (first | ((with_reducible refine gate_dst (N := 1) rfl ?_); refine zbox (N := 1) (cs := #[.int .u8 a0_0, .int .u16 a0_1, .slice A0_2 l0_2.length c0_2, .slice A0_3 l0_3.length c0_3, .slice A0_4 l0_4.length c0_4, .slice A0_5 l0_5.length c0_5]) (t := 38) ?_; intro gb hg w2 hbox hb; have n0_ := Aside0.mk (below_step (zb) hb); have BK := Aside0.mk (hbox); clear HB; have HB := n0_; clear n0_; clear hb hbox hg; obtain ⟨q0, q1, q2, q3, q4, q5⟩ := cells6 BK.out))
      go_ret
      exact ⟨by first | rfl | (simp; done) | (simp [*]; done), zb⟩
    rw [if_pos c3] at h
    have c3b0 : (Go.bits .and .u8 a0_0 4 == 0) = true := beq_iff_eq.mpr c3
    have c3b1 : (Go.bits .and .u8 a0_0 4 != 0) = false := bne_eq_false_iff_eq.mpr c3
    clear c3
    by_cases c4 : a0_1 = 65535
    rotate_left
    · rw [if_neg c4] at h
      obtain rfl := Option.some.inj h
      have c4b0 : (a0_1 == 65535) = false := beq_eq_false_iff_ne.mpr c4
      have c4b1 : (a0_1 != 65535) = true := bne_iff_ne.mpr c4
      clear c4 h
      go_enter Try.func15, Try.ntmps15
      go_wp2_with (first | ((with_reducible refine gate_dst (N := 1) rfl ?_); refine zbox (N := 1) (cs := #[.int .u8 a0_0, .int .u16 a0_1, .slice A0_2 l0_2.length c0_2, .slice A0_3 l0_3.length c0_3, .slice A0_4 l0_4.length c0_4, .slice A0_5 l0_5.length c0_5]) (t := 38) ?_; intro gb hg w2 hbox hb; have n0_ := Aside0.mk (below_step (zb) hb); have BK := Aside0.mk (hbox); clear HB; have HB := n0_; clear n0_; clear hb hbox hg; obtain ⟨q0, q1, q2, q3, q4, q5⟩ := cells6 BK.out))
      go_ret
      exact ⟨by first | rfl | (simp; done) | (simp [*]; done), zb⟩
    rw [if_pos c4] at h
    have c4b0 : (a0_1 == 65535) = true := beq_iff_eq.mpr c4
    have c4b1 : (a0_1 != 65535) = false := bne_eq_false_iff_eq.mpr c4
    clear c4
    by_cases c5 : wrap64 (wrap64 ((l0_2.length : Int) + (l0_3.length : Int)) + (l0_4.length : Int)) = 0
    rotate_left
    · rw [if_neg c5] at h
      obtain rfl := Option.some.inj h
      have c5b0 : (wrap64 (wrap64 ((l0_2.length : Int) + (l0_3.length : Int)) + (l0_4.length : Int)) == 0) = false := beq_eq_false_iff_ne.mpr c5
      have c5b1 : (wrap64 (wrap64 ((l0_2.length : Int) + (l0_3.length : Int)) + (l0_4.length : Int)) != 0) = true := bne_iff_ne.mpr c5
      clear c5 h
      go_enter Try.func15, Try.ntmps15
      go_wp2_with (first | ((with_reducible refine gate_dst (N := 1) rfl ?_); refine zbox (N := 1) (cs := #[.int .u8 a0_0, .int .u16 a0_1, .slice A0_2 l0_2.length c0_2, .slice A0_3 l0_3.length c0_3, .slice A0_4 l0_4.length c0_4, .slice A0_5 l0_5.length c0_5]) (t := 38) ?_; intro gb hg w2 hbox hb; have n0_ := Aside0.mk (below_step (zb) hb); have BK := Aside0.mk (hbox); clear HB; have HB := n0_; clear n0_; clear hb hbox hg; obtain ⟨q0, q1, q2, q3, q4, q5⟩ := cells6 BK.out))
      go_ret
      exact ⟨by first | rfl | (simp; done) | (simp [*]; done), zb⟩
    rw [if_pos c5] at h
    have c5b0 : (wrap64 (wrap64 ((l0_2.length : Int) + (l0_3.length : Int)) + (l0_4.length : Int)) == 0) = true := beq_iff_eq.mpr c5
    have c5b1 : (wrap64 (wrap64 ((l0_2.length : Int) + (l0_3.length : Int)) + (l0_4.length : Int)) != 0) = false := bne_eq_false_iff_eq.mpr c5
    clear c5
    have HA := Aside0.mk h
    clear h
    go_enter Try.func15, Try.ntmps15
    go_wp2_with (first | ((with_reducible refine gate_dst (N := 1) rfl ?_); refine zbox (N := 1) (cs := #[.int .u8 a0_0, .int .u16 a0_1, .slice A0_2 l0_2.length c0_2, .slice A0_3 l0_3.length c0_3, .slice A0_4 l0_4.length c0_4, .slice A0_5 l0_5.length c0_5]) (t := 38) ?_; intro gb hg w2 hbox hb; have n0_ := Aside0.mk (below_step (zb) hb); have BK := Aside0.mk (hbox); clear HB; have HB := n0_; clear n0_; clear hb hbox hg; obtain ⟨q0, q1, q2, q3, q4, q5⟩ := cells6 BK.out) | (go_at_call 28; (with_reducible refine (each66.calls 60 _ _ l0_5 r _ ?s1 HC0_5.out HA.out).mono ?_); (case s1 => first | exact HR0_5.out | exact Kd.C_below HR0_5.out HB.out); rintro e w3 ⟨rfl, hb⟩; have n1_ := Aside0.mk (below_step (zb) hb); have n2_ := Aside0.mk (blk_below BK.out hb); clear HB BK hb q0 q1 q2 q3 q4 q5; have HB := n1_; have BK := n2_; clear n1_ n2_; obtain ⟨q0, q1, q2, q3, q4, q5⟩ := cells6 BK.out))
    go_ret
    exact ⟨by first | rfl | (simp; done) | (simp [*]; done), zb⟩
-- NOT PRINTED: function 19 (api_Class_19)
-- NOT PRINTED: function 36 (api_Sig_36)
def class_word.f (k : Nat) (a0 : Int) : Option (List Int × Int) := (ends_Put.f k ((a0) % 4294967296) 2).bind fun bt144 => (some (bt144.1, bt144.2))
set_option maxHeartbeats 8000000 in
set_option maxRecDepth 100000 in
theorem class_word.calls (k : Nat) (a0 : Int) (r1 : List Int) (r2 : Int) (w : World) (h : class_word.f k a0 = some (r1, r2)) :
    Calls Try.prog 37 #[.int .u16 a0] w fun e w' => ∃ v0_ : Value, e = .returned (.tuple #[v0_, .int .i64 r2]) ∧ Kd.R (Kd.int .u8) 5 w' w.heap.size (fun _ => True) v0_ r1 ∧ Below w.heap.size w w' := by
  have HB := Aside0.mk (Below.refl w.heap.size w)
  have H : ((ends_Put.f k ((a0) % 4294967296) 2).bind fun bt144 => (some (bt144.1, bt144.2))) = some (r1, r2) := h
  clear h
  replace H := Option.bind_eq_some_iff.mp H
  obtain ⟨⟨t144, t145⟩, A20, H⟩ := H
  replace H : (some (t144, t145)) = some (r1, r2) := H
  have A2 := Aside0.mk A20
  clear A20
  simp only [Option.some.injEq, Prod.mk.injEq] at H
  obtain ⟨rfl, rfl⟩ := H
  go_enter Try.func37, Try.ntmps37
  go_wp2_with (first | ((with_reducible refine gate_callee (f := 62) rfl ?_); refine goesL_ (some 6) rfl rfl Try.func62 (by kernel_rfl) rfl #[.int .u32 ((a0) % 4294967296), .int .i64 2] rfl zargs ?_; (with_reducible refine (ends_Put.calls k ((a0) % 4294967296) 2 t144 t145 _ A2.out).mono ?_); rintro e w3 ⟨v146, rfl, ho0, hb⟩; refine ⟨_, rfl, ?_⟩; have n0_ := Aside0.mk (Kd.R_lower ho0 (below_size (zb))); have n1_ := Aside0.mk (below_step (zb) hb); clear HB; have HO147 := n0_; have HB := n1_; clear n0_ n1_; (try clear hb); (try clear hb2); (try clear hk); (try clear hi); (try clear ho0)))
  go_ret2
  exact ⟨_, ze, by (with_reducible repeat (first | apply Kd.R_alloc | apply Kd.R_drewN | apply Kd.R_drew)); exact HO147.out, zb⟩
-- NOT PRINTED: function 38 (api_Iface_38)
def ends_PutRow.j0 : Nat → List Int → Int → Bool → Option (List Int × Int)
  | 0, _, _, _ => none
  | k + 1, x0, x1, x8 => if x8 = true then (some (([] : List Int), 2)) else (if 0 ≤ (IntKind.u64.wrap (8 * (IntKind.u64.wrap (x1)))) then (if (x0.length : Int) ≥ (shl .i64 1 (IntKind.u64.wrap (8 * (IntKind.u64.wrap (x1))))) then (some (([] : List Int), 3)) else ((ends_Put.f k (((x0.length : Int)) % 4294967296) x1).bind fun bt148 => (if bt148.1.length + x0.length < 140737488355328 then (some ((bt148.1 ++ x0), 0)) else (none)))) else (none))
def ends_PutRow.f (k : Nat) (l0 : List Int) (a1 : Int) : Option (List Int × Int) := if a1 = 1 then (ends_PutRow.j0 k l0 a1 false) else (ends_PutRow.j0 k l0 a1 (a1 != 2))
set_option maxHeartbeats 8000000 in
set_option maxRecDepth 100000 in
theorem ends_PutRow.calls (k : Nat) (A0 : Option Addr) (c0 : Nat) (l0 : List Int) (a1 : Int) (r1 : List Int) (r2 : Int) (w : World) (hr0 : Kd.C (Kd.int .u8) w A0 l0.length l0) (hc0 : l0.length ≤ c0) (h : ends_PutRow.f k l0 a1 = some (r1, r2)) :
    Calls Try.prog 63 #[.slice A0 l0.length c0, .int .i64 a1] w fun e w' => ∃ v0_ : Value, e = .returned (.tuple #[v0_, .int .i64 r2]) ∧ Kd.R (Kd.int .u8) 5 w' w.heap.size (fun _ => True) v0_ r1 ∧ Below w.heap.size w w' := by
  have HR0 := Aside0.mk hr0
  have HC0 := Aside0.mk hc0
  clear hr0 hc0
  have HB := Aside0.mk (Below.refl w.heap.size w)
  have H : (if a1 = 1 then (ends_PutRow.j0 k l0 a1 false) else (ends_PutRow.j0 k l0 a1 (a1 != 2))) = some (r1, r2) := h
  clear h
  have HC3 := Aside0.mk H
  clear H
  go_enter Try.func63, Try.ntmps63
  go_upto_region 1 with (fail)
  go_cut [8] (fun v8 wc => ∃ (kq : Nat) (x8_2 : Bool), v8 = .bool x8_2 ∧ Aside0 (ends_PutRow.j0 kq l0 a1 x8_2 = some (r1, r2)) ∧ Aside0 (kq ≤ k) ∧ Aside0 (Below w.heap.size w wc))
  case first =>
    have H := HC3.out
    clear HC3
    by_cases c4 : a1 = 1
    · rw [if_pos c4] at H
      have c4b0 : (a1 == 1) = true := beq_iff_eq.mpr c4
      have c4b1 : (a1 != 1) = false := bne_eq_false_iff_eq.mpr c4
      clear c4
      (first | rw [c4b0] | (simp only [i64_w, i32_w]; rw [c4b0]) | skip)
      have H' := Aside0.mk H
      clear H
      go_wp2
      go_meet
      case rel => exact ⟨_, (false), zs, H', ⟨by first | omega | exact Nat.le_refl _⟩, ⟨zb⟩⟩
    · rw [if_neg c4] at H
      have c4b0 : (a1 == 1) = false := beq_eq_false_iff_ne.mpr c4
      have c4b1 : (a1 != 1) = true := bne_iff_ne.mpr c4
      (first | rw [c4b0] | (simp only [i64_w, i32_w]; rw [c4b0]) | skip)
      have H' := Aside0.mk H
      clear H
      go_wp2
      go_meet
      case rel => exact ⟨_, ((a1 != 2)), zs, H', ⟨by first | omega | exact Nat.le_refl _⟩, ⟨zb⟩⟩
  case rest =>
    clear HC3
    try clear p2
    try clear c4
    try clear c4b0
    try clear c4b1
    obtain ⟨kq, x8_2, rfl, HA, HJ2, HB⟩ := hcut
    cases kq with
    | zero => exact absurd HA.out (by simp [ends_PutRow.j0])
    | succ kj2 =>
      have H := HA.out
      clear HA
      simp only [ends_PutRow.j0] at H
      by_cases c5 : x8_2 = true
      · subst c5
        have H1 : (some (([] : List Int), 2)) = some (r1, r2) := by rw [if_pos rfl] at H; exact H
        clear H
        have H := H1
        clear H1
        simp only [Option.some.injEq, Prod.mk.injEq] at H
        obtain ⟨rfl, rfl⟩ := H
        go_wp2
        go_ret2
        exact ⟨_, ze, by first | exact Kd.R_nil _ _ _ _ _ | exact Kd.N_nil _ _ _ _ _ | exact Kd.V_nil _ _ _ _ _ | exact Kd.Q_nil _ _ _ _ _ | exact Kd.S_nil _ _ _ _ _, zb⟩
      · replace c5 := Bool.eq_false_iff.mpr c5
        subst c5
        have H1 : (if 0 ≤ (IntKind.u64.wrap (8 * (IntKind.u64.wrap (a1)))) then (if (l0.length : Int) ≥ (shl .i64 1 (IntKind.u64.wrap (8 * (IntKind.u64.wrap (a1))))) then (some (([] : List Int), 3)) else ((ends_Put.f kj2 (((l0.length : Int)) % 4294967296) a1).bind fun bt148 => (if bt148.1.length + l0.length < 140737488355328 then (some ((bt148.1 ++ l0), 0)) else (none)))) else (none)) = some (r1, r2) := by rw [if_neg (show ¬ (false = true) by decide)] at H; exact H
        clear H
        have H := H1
        clear H1
        obtain ⟨ji6, hji6⟩ : ∃ j_ : Int, (IntKind.u64.wrap (8 * (IntKind.u64.wrap (a1)))) = j_ := ⟨_, rfl⟩
        replace H : (if 0 ≤ (ji6) then (if (l0.length : Int) ≥ (shl .i64 1 (ji6)) then (some (([] : List Int), 3)) else ((ends_Put.f kj2 (((l0.length : Int)) % 4294967296) a1).bind fun bt148 => (if bt148.1.length + l0.length < 140737488355328 then (some ((bt148.1 ++ l0), 0)) else (none)))) else (none)) = some (r1, r2) := by first | (rw [hji6] at H; exact H) | (simp only [hji6] at H ⊢; exact H)
        by_cases c7 : 0 ≤ (ji6)
        · rw [if_pos c7] at H
          have c7b0 := eq_true c7
          have c7b1 : decide (0 ≤ (ji6)) = true := decide_eq_true c7
          clear c7
          obtain ⟨ji8, hji8⟩ : ∃ j_ : Int, (shl .i64 1 (ji6)) = j_ := ⟨_, rfl⟩
          replace H : (if (l0.length : Int) ≥ (ji8) then (some (([] : List Int), 3)) else ((ends_Put.f kj2 (((l0.length : Int)) % 4294967296) a1).bind fun bt148 => (if bt148.1.length + l0.length < 140737488355328 then (some ((bt148.1 ++ l0), 0)) else (none)))) = some (r1, r2) := by first | (rw [hji8] at H; exact H) | (simp only [hji8] at H ⊢; exact H)
          have hji8_ : (IntKind.i64.wrap (1 * 2 ^ min (ji6).toNat 64)) = ji8 := hji8
          have hji8z : (ji6) ≤ 64 → (IntKind.i64.wrap (1 * 2 ^ (ji6).toNat)) = ji8 := shl_small hji8
          have hji8u : (IntKind.i64.wrap (2 ^ min (ji6).toNat 64)) = ji8 := by have h_ := hji8_; rw [Int.one_mul] at h_; exact h_
          have hji8v : (ji6) ≤ 64 → (IntKind.i64.wrap (2 ^ (ji6).toNat)) = ji8 := fun hle_ => by have h_ := hji8z hle_; rw [Int.one_mul] at h_; exact h_
          have hji8y : (wrap64 (1 * 2 ^ min (ji6).toNat 64)) = ji8 := (i64_w _).symm.trans hji8_
          have hji8x : (ji6) ≤ 64 → (wrap64 (1 * 2 ^ (ji6).toNat)) = ji8 := fun h_ => (i64_w _).symm.trans (hji8z h_)
          by_cases c9 : (l0.length : Int) ≥ (ji8)
          · rw [if_pos c9] at H
            have c9b0 : decide ((ji8) ≤ (l0.length : Int)) = true := decide_eq_true c9
            clear c9
            simp only [Option.some.injEq, Prod.mk.injEq] at H
            obtain ⟨rfl, rfl⟩ := H
            go_wp2
            go_ret2
            exact ⟨_, by first | rfl | (simp [errW_none, errW_some] <;> rfl) | (simp only [← hji6, ← hji8]; first | rfl | (simp [errW_none, errW_some] <;> rfl)) | (simp [*, errW_none, errW_some] <;> rfl), by first | exact Kd.R_nil _ _ _ _ _ | exact Kd.N_nil _ _ _ _ _ | exact Kd.V_nil _ _ _ _ _ | exact Kd.Q_nil _ _ _ _ _ | exact Kd.S_nil _ _ _ _ _, zb⟩
          · rw [if_neg c9] at H
            have c9b0 : decide ((ji8) ≤ (l0.length : Int)) = false := decide_eq_false c9
            clear c9
            replace H := Option.bind_eq_some_iff.mp H
            obtain ⟨⟨t148, t149⟩, A100, H⟩ := H
            replace H : (if t148.length + l0.length < 140737488355328 then (some ((t148 ++ l0), 0)) else (none)) = some (r1, r2) := H
            have A10 := Aside0.mk A100
            clear A100
            by_cases c11 : t148.length + l0.length < 140737488355328
            · rw [if_pos c11] at H
              have LMc11 := Aside0.mk c11
              clear c11
              obtain ⟨y152, hy152⟩ : ∃ y_ : List Int, y_ = (t148 ++ l0) := ⟨_, rfl⟩
              replace H : (some (y152, 0)) = some (r1, r2) := by first | (rw [hy152]; with_reducible exact H) | (have H2_ := (Option.bind_some _ _).symm.trans H; rw [hy152]; with_reducible exact H2_) | (have H2_ := (Option.bind_some _ _).symm.trans H; with_reducible exact H2_) | with_reducible exact H | (rw [hy152]; exact H) | exact H
              have Ny152 := Aside0.mk hy152
              clear hy152
              simp only [Option.some.injEq, Prod.mk.injEq] at H
              obtain ⟨rfl, rfl⟩ := H
              go_wp2_with (first | ((with_reducible refine gate_callee (f := 62) rfl ?_); refine goesL_ (some 28) rfl rfl Try.func62 (by kernel_rfl) rfl #[.int .u32 (((l0.length : Int)) % 4294967296), .int .i64 a1] rfl zargs ?_; (with_reducible refine (ends_Put.calls kj2 (((l0.length : Int)) % 4294967296) a1 t148 t149 _ A10.out).mono ?_); rintro e w12 ⟨v150, rfl, ho0, hb⟩; refine ⟨_, rfl, ?_⟩; have n0_ := Aside0.mk (Kd.R_lower ho0 (below_size (zb))); have n1_ := Aside0.mk (below_step (zb) hb); clear HB; have HO151 := n0_; have HB := n1_; clear n0_ n1_; (try clear hb); (try clear hb2); (try clear hk); (try clear hi); (try clear ho0)) | ((with_reducible refine gate_builtin (b := .append) (xs := #[.tmp 31, .tmp 32]) rfl ?_); at_builtin; refine Kd.R_append_rows (Kd.int .u8) (w0 := w) w.heap.size rfl (.tmp 31) (.tmp 32) 24 5 (.int .u8 0) 1 rfl Try.underlying24 info5 rfl (by decide) (by omega) v150 t148 l0 _ _ _ (fun _ => True) (fun _ => False) rfl rfl ?aO ?aR (fun _ _ h => h) (fun _ h => h.elim) ?aF ?aB ?aS ?aL ?_; (case aR => repeat (first | exact (Kd.C_below HR0.out HB.out) | (with_reducible refine Kd.C_alloc ?_ _) | (with_reducible refine Kd.C_drewN ?_ _) | (with_reducible refine Kd.C_drew ?_))); (case aB => exact (zb)); (case aF => exact (fun _ _ => trivial)); (case aO => exact (zr HO151)); (case aS => exact (below_size (zb))); (case aL => have := LMc11.out; omega); intro v153 w13 ho hb hg hat; rw [← Ny152.out] at ho; have n0_ := Aside0.mk (hb); have n1_ := Aside0.mk (ho); clear HB; clear HO151; have HB := n0_; have HO154 := n1_; clear n0_ n1_; clear ho hb hg hat))
              go_ret2
              exact ⟨_, by first | rfl | (simp [errW_none, errW_some] <;> rfl) | (simp only [← hji6, ← hji8]; first | rfl | (simp [errW_none, errW_some] <;> rfl)) | (simp [*, errW_none, errW_some] <;> rfl), by (with_reducible repeat (first | apply Kd.R_alloc | apply Kd.R_drewN | apply Kd.R_drew)); exact HO154.out, zb⟩
            · rw [if_neg c11] at H
              exact absurd H (by simp)
        · rw [if_neg c7] at H
          exact absurd H (by simp)
def class_iface.f (k : Nat) (a0_0 : Int) (l0_1 : List Int) : Option (List Int × Int) := (class_word.f k a0_0).bind fun bt156 => ((ends_PutRow.f k l0_1 1).bind fun bt160 => (if bt156.1.length + bt160.1.length < 140737488355328 then (some ((bt156.1 ++ bt160.1), bt160.2)) else (none)))
set_option maxHeartbeats 8000000 in
set_option maxRecDepth 100000 in
theorem class_iface.calls (k : Nat) (a0_0 : Int) (A0_1 : Option Addr) (c0_1 : Nat) (l0_1 : List Int) (r1 : List Int) (r2 : Int) (w : World) (hr0_1 : Kd.C (Kd.int .u8) w A0_1 l0_1.length l0_1) (hc0_1 : l0_1.length ≤ c0_1) (h : class_iface.f k a0_0 l0_1 = some (r1, r2)) :
    Calls Try.prog 39 #[.agg #[.int .u16 a0_0, .slice A0_1 l0_1.length c0_1]] w fun e w' => ∃ v0_ : Value, e = .returned (.tuple #[v0_, .int .i64 r2]) ∧ Kd.R (Kd.int .u8) 5 w' w.heap.size (fun _ => True) v0_ r1 ∧ Below w.heap.size w w' := by
  have hu41 := Try.underlying41
  have HR0_1 := Aside0.mk hr0_1
  have HC0_1 := Aside0.mk hc0_1
  clear hr0_1 hc0_1
  have HB := Aside0.mk (Below.refl w.heap.size w)
  have H : ((class_word.f k a0_0).bind fun bt156 => ((ends_PutRow.f k l0_1 1).bind fun bt160 => (if bt156.1.length + bt160.1.length < 140737488355328 then (some ((bt156.1 ++ bt160.1), bt160.2)) else (none)))) = some (r1, r2) := h
  clear h
  replace H := Option.bind_eq_some_iff.mp H
  obtain ⟨⟨t156, t157⟩, A20, H⟩ := H
  replace H : ((ends_PutRow.f k l0_1 1).bind fun bt160 => (if t156.length + bt160.1.length < 140737488355328 then (some ((t156 ++ bt160.1), bt160.2)) else (none))) = some (r1, r2) := H
  have A2 := Aside0.mk A20
  clear A20
  replace H := Option.bind_eq_some_iff.mp H
  obtain ⟨⟨t160, t161⟩, A30, H⟩ := H
  replace H : (if t156.length + t160.length < 140737488355328 then (some ((t156 ++ t160), t161)) else (none)) = some (r1, r2) := H
  have A3 := Aside0.mk A30
  clear A30
  by_cases c4 : t156.length + t160.length < 140737488355328
  · rw [if_pos c4] at H
    have LMc4 := Aside0.mk c4
    clear c4
    obtain ⟨y164, hy164⟩ : ∃ y_ : List Int, y_ = (t156 ++ t160) := ⟨_, rfl⟩
    replace H : (some (y164, t161)) = some (r1, r2) := by first | (rw [hy164]; with_reducible exact H) | (have H2_ := (Option.bind_some _ _).symm.trans H; rw [hy164]; with_reducible exact H2_) | (have H2_ := (Option.bind_some _ _).symm.trans H; with_reducible exact H2_) | with_reducible exact H | (rw [hy164]; exact H) | exact H
    have Ny164 := Aside0.mk hy164
    clear hy164
    simp only [Option.some.injEq, Prod.mk.injEq] at H
    obtain ⟨rfl, rfl⟩ := H
    go_enter Try.func39, Try.ntmps39
    go_wp2_with (first | ((with_reducible refine gate_dst (N := 1) rfl ?_); refine zbox (N := 1) (cs := #[.int .u16 a0_0, .slice A0_1 l0_1.length c0_1]) (t := 41) ?_; intro gb155 hg w5 hbox hb; have n0_ := Aside0.mk (below_step (zb) hb); have n1_ := Aside0.mk (hbox); have n2_ := Aside0.mk ((by rw [hg]; exact (below_size (zb)) : w.heap.size ≤ gb155)); have n3_ := Aside0.mk ((by rw [hg]; exact (below_size (zb)) : w.heap.size ≤ gb155)); clear HB; have HB := n0_; have BK155 := n1_; have GW155 := n2_; have GE155 := n3_; clear n0_ n1_ n2_ n3_; clear hb hbox hg; obtain ⟨hcz6_0, hcz6_1⟩ := cells2 BK155.out; obtain ⟨hfz6_0, hfz6_1⟩ := froz2 BK155.out) | ((with_reducible refine gate_callee (f := 37) rfl ?_); refine goesL_ (some 11) rfl rfl Try.func37 (by kernel_rfl) rfl #[.int .u16 a0_0] rfl zargs ?_; (with_reducible refine (class_word.calls k a0_0 t156 t157 _ A2.out).mono ?_); rintro e w7 ⟨v158, rfl, ho0, hb⟩; refine ⟨_, rfl, ?_⟩; have n0_ := Aside0.mk (Kd.R_lower ho0 (below_size (zb))); have n1_ := Aside0.mk (blk_below (g := gb155) (o := .cells #[.int .u16 a0_0, .slice A0_1 l0_1.length c0_1] 41 (0, 0)) zk hb); have n2_ := Aside0.mk (below_step (zb) hb); clear BK155; clear HB; have HO159 := n0_; have BK155 := n1_; have HB := n2_; clear n0_ n1_ n2_; (try clear hb); (try clear hb2); (try clear hk); (try clear hi); (try clear ho0); obtain ⟨hcz8_0, hcz8_1⟩ := cells2 BK155.out; obtain ⟨hfz8_0, hfz8_1⟩ := froz2 BK155.out) | ((with_reducible refine gate_callee (f := 63) rfl ?_); refine goesL_ (some 17) rfl rfl Try.func63 (by kernel_rfl) rfl #[.slice A0_1 l0_1.length c0_1, .int .i64 1] rfl zargs ?_; (with_reducible refine (ends_PutRow.calls k _ _ l0_1 1 t160 t161 _ ?side1 ?side2 A3.out).mono ?_); (case side1 => exact zc (Kd.C_below HR0_1.out HB.out)); (case side2 => exact HC0_1.out); rintro e w9 ⟨v162, rfl, ho0, hb⟩; refine ⟨_, rfl, ?_⟩; have n0_ := Aside0.mk (Kd.R_elder' (zr HO159) (Kd.R_base ho0) hb); have n1_ := Aside0.mk (Kd.R_lower (Kd.R_new' ho0 (Kd.R_lt (zr HO159))) (below_size (zb))); have n2_ := Aside0.mk (blk_below (g := gb155) (o := .cells #[.int .u16 a0_0, .slice A0_1 l0_1.length c0_1] 41 (0, 0)) zk hb); have n3_ := Aside0.mk (below_step (zb) hb); clear HO159; clear BK155; clear HB; have HO159 := n0_; have HO163 := n1_; have BK155 := n2_; have HB := n3_; clear n0_ n1_ n2_ n3_; (try clear hb); (try clear hb2); (try clear hk); (try clear hi); (try clear ho0); obtain ⟨Ao11, co11, eo11⟩ := Kd.R_slice HO163.out; subst eo11) | ((with_reducible refine gate_builtin (b := .append) (xs := #[.tmp 20, .tmp 21]) rfl ?_); at_builtin; refine Kd.R_append_rows (Kd.int .u8) (w0 := w) w.heap.size rfl (.tmp 20) (.tmp 21) 24 5 (.int .u8 0) 1 rfl Try.underlying24 info5 rfl (by decide) (by omega) v158 t156 t160 _ _ _ (fun k_ => some k_ ≠ (.slice Ao11 t160.length co11 : Value).ownBlock) (fun _ => False) rfl rfl ?aO ?aR (fun _ _ h => h) (fun _ h => h.elim) ?aF ?aB ?aS ?aL ?_; (case aR => repeat (first | exact (Kd.R_reads' HO163.out).2.2 | (with_reducible refine Kd.C_alloc ?_ _) | (with_reducible refine Kd.C_drewN ?_ _) | (with_reducible refine Kd.C_drew ?_))); (case aB => exact (zb)); (case aF => exact (fun k_ hk => Kd.fresh' (Kd.R_lt (zr HO163)) k_ hk)); (case aO => exact (by (with_reducible repeat (first | apply Kd.R_alloc | apply Kd.R_drewN | apply Kd.R_drew)); exact Kd.R_mono HO159.out (fun _ hk => hk.2))); (case aS => exact (below_size (zb))); (case aL => have := LMc4.out; omega); intro v165 w10 ho hb hg hat; rw [← Ny164.out] at ho; have n0_ := Aside0.mk (blk_grown (g := gb155) (o := .cells #[.int .u16 a0_0, .slice A0_1 l0_1.length c0_1] 41 (0, 0)) zk hg (Kd.R_ne HO159.out BK155.out (by decide))); have n1_ := Aside0.mk (Kd.R_after (ok := (fun _ => True)) (zr HO163) hg hat); have n2_ := Aside0.mk (hb); have n3_ := Aside0.mk (ho); clear BK155; clear HO163; clear HB; clear HO159; have BK155 := n0_; have HO163 := n1_; have HB := n2_; have HO166 := n3_; clear n0_ n1_ n2_ n3_; clear ho hb hg hat))
    go_ret2
    exact ⟨_, ze, by (with_reducible repeat (first | apply Kd.R_alloc | apply Kd.R_drewN | apply Kd.R_drew)); exact Kd.R_mono HO166.out (fun _ hk => trivial), zb⟩
  · rw [if_neg c4] at H
    exact absurd H (by simp)
/-- list66: the bytes of a row's elements behind what is there. -/
def list66 : List S66 → List Int → Option (List Int)
  | [], acc => some acc
  | x :: r, acc => (types_PutSig.f 60 x.f0 x.f1.f0 x.f1.f1).bind fun t => if acc.length + t.1.length ≤ 140737488355328 then list66 r (acc ++ t.1) else none
set_option maxHeartbeats 8000000 in
set_option maxRecDepth 100000 in
theorem list66.calls (A0 : Option Addr) (c0 : Nat) (l0 : List S66) (r : List Int) (w : World) (hr0 : Kd.C k66 w A0 l0.length l0) (hc0 : l0.length ≤ c0) (h : list66 l0 [(l0.length : Int) % 256] = some r) :
    Calls Try.prog 36 #[.slice A0 l0.length c0, .func (.func 27) #[] #[]] w fun e w' => ∃ v0_ : Value, e = .returned v0_ ∧ Kd.R (Kd.int .u8) 5 w' w.heap.size (fun _ => True) v0_ r ∧ Below w.heap.size w w' := by
  have hmax := Kd.C_max hr0
  have HR0 := Aside0.mk hr0
  have HC0 := Aside0.mk hc0
  have HMX := Aside0.mk hmax
  have H0 := Aside0.mk h
  clear hr0 hc0 hmax h
  have HB := Aside0.mk (Below.refl w.heap.size w)
  have hu24 := Try.underlying24
  have hu36 := Try.underlying36
  go_enter Try.func36, Try.ntmps36
  go_wp2_with (first | ((with_reducible refine gate_dst (N := 13) rfl ?_); (try (refine gate_guard (by rfl) ?_; dsimp only)); refine Kd.R_lit (Kd.int .u8) _ 5 ?hg (N := 13) ?hd (xs := ([(l0.length : Int) % 256] : List Int)) (inner := [.int .u8 ((l0.length : Int) % 256)]) (ok := fun _ => True) (okp := fun _ => True) ?hr ?hp (fun _ hk => hk) trivial (Below.refl _ _) (Nat.le_refl _) (by simp) ?_; (case hd => rfl); (case hg => rfl); (case hr => first | (go_simp; done) | (go_simp; rfl)); (case hp => exact (Reps.one (show Kd.M (Kd.int .u8) _ _ _ ((l0.length : Int) % 256) [.int .u8 ((l0.length : Int) % 256)] from rfl) (Reps.none _ _))); intro v5 w5 ho hb hg_ hnew_; clear hg_ hnew_; have n0_ := Aside0.mk (Kd.R_lower ho (below_size (zb))); have n1_ := Aside0.mk (below_step (zb) hb); clear HB; have HO5 := n0_; have HB := n1_; clear n0_ n1_ hb ho))
  go_loopg [5, 16] l0.length (fun kq v5 v16 w' => ∃ (acc : List Int) (x : Int), v16 = .int .i64 x ∧ Aside0 (0 ≤ x ∧ (kq : Int) + x = l0.length) ∧ Aside0 (list66 (l0.drop x.toNat) acc = some r) ∧ Aside0 (Kd.R (Kd.int .u8) 5 w' w.heap.size (fun _ => True) v5 acc) ∧ Aside0 (Below w.heap.size w w'))
  case atStart => exact ⟨_, 0, rfl, ⟨by simp⟩, H0, ⟨zr HO5⟩, ⟨zb⟩⟩
  case round =>
    clear HB HO5 H0
    obtain ⟨acc, x, rfl, HI, HA, HO5, HB⟩ := hrel
    cases gk with
    | zero =>
      have e4 : x = (l0.length : Int) := by have := HI.out; omega
      have hA := HA.out
      rw [List.drop_eq_nil_of_le (by omega)] at hA
      unfold list66 at hA
      obtain rfl := Option.some.inj hA
      have c2 : decide (x < (l0.length : Int)) = false := decide_eq_false (by omega)
      clear e4 hA HA
      go_wp2
      go_ret
      exact ⟨_, rfl, by (with_reducible repeat (first | apply Kd.R_alloc | apply Kd.R_drewN | apply Kd.R_drew)); exact HO5.out, zb⟩
    | succ k1 =>
      have p1 : 0 ≤ x := HI.out.1
      have p2 : x < (l0.length : Int) := by have := HI.out; omega
      have c2 : decide (x < (l0.length : Int)) = true := decide_eq_true p2
      have hw : wrap64 (x + 1) = x + 1 := by have := HI.out; have := HMX.out; unfold wrap64; omega
      have HW := Aside0.mk hw
      clear hw
      have hd_ : l0.drop x.toNat = (rd_T66 l0 x) :: l0.drop (x.toNat + 1) := by
        rw [List.drop_eq_getElem_cons (by omega)]
        congr 1
        simp only [rd_T66]
        rw [List.getD_eq_getElem?_getD, List.getElem?_eq_getElem (by omega), Option.getD_some]
      have hA := HA.out
      rw [hd_] at hA
      unfold list66 at hA
      clear HA hd_
      obtain ⟨ad, A1, c1, e0_, hx0, hx1, hx2, hl1, hc1⟩ := at_T66 (Kd.C_below HR0.out HB.out) x p1 p2
      cases e0_
      obtain ⟨e_, he_⟩ : ∃ s_ : S66, s_ = rd_T66 l0 x := ⟨_, rfl⟩
      rw [← he_] at hA hx0 hx1 hx2 hl1 hc1
      have HL1 := Aside0.mk hl1
      have HC1 := Aside0.mk hc1
      clear he_ hl1 hc1
      obtain ⟨⟨q1, q2⟩, ht, hA⟩ := Option.bind_eq_some_iff.mp hA
      have HT := Aside0.mk ht
      replace hA : (if acc.length + q1.length ≤ 140737488355328 then list66 (l0.drop (x.toNat + 1)) (acc ++ q1) else none) = some r := hA
      by_cases hq_ : acc.length + q1.length ≤ 140737488355328
      rotate_left
      · rw [if_neg hq_] at hA
        cases hA
      rw [if_pos hq_] at hA
      have HQ := Aside0.mk hq_
      have HA := Aside0.mk hA
      clear ht hA hq_
      replace p1 := eq_true p1
      replace p2 := eq_true p2
      go_wp2_with (first | (go_at_call 27; (with_reducible refine (types_PutSig.calls 60 A1 c1 e_.f0 e_.f1.f0 e_.f1.f1 q1 q2 _ ?s1 HL1.out HT.out).mono ?_); (case s1 => first | exact HC1.out | exact Kd.C_alloc HC1.out _); rintro e w1 ⟨v8, rfl, ho, hb⟩; have n0_ := Aside0.mk (Kd.R_below (zr HO5) hb); have n2_ := Aside0.mk (Kd.R_lower ho (below_size (zb))); have n1_ := Aside0.mk (below_step (zb) hb); clear HB HO5 hb ho; have HB := n1_; have HO5 := n0_; have HO8 := n2_; clear n0_ n1_ n2_; obtain ⟨Ao8, co8, eo8⟩ := Kd.R_slice HO8.out; subst eo8) | ((with_reducible refine gate_builtin (b := .append) (xs := #[.tmp 26, .tmp 27]) rfl ?_); at_builtin; refine Kd.R_append_rows (Kd.int .u8) (w0 := w) w.heap.size rfl (.tmp 26) (.tmp 27) 24 5 (.int .u8 0) 1 rfl Try.underlying24 info5 rfl (by decide) (by omega) _ acc q1 _ _ _ (fun _ => True) (fun _ => False) rfl rfl ?aO ?aR (fun _ _ h => h) (fun _ h => h.elim) ?aF ?aB ?aS ?aL ?_; (case aR => exact (Kd.R_reads' (zr HO8)).2.2); (case aB => exact (zb)); (case aF => exact (fun _ _ => trivial)); (case aO => exact (zr HO5)); (case aS => exact (below_size (zb))); (case aL => have := HQ.out; omega); intro v48 w48 ho hb hg hat; have n0_ := Aside0.mk ho; have n1_ := Aside0.mk hb; clear HO5 HB HO8; have HO5 := n0_; have HB := n1_; clear n0_ n1_ ho hb hg hat))
      go_roundg k1
      case measure => omega
      case rel => exact ⟨_, x + 1, by rw [HW.out], ⟨by have := HI.out; omega⟩, ⟨by rw [show (x + 1).toNat = x.toNat + 1 from by have := HI.out; omega]; exact HA.out⟩, ⟨zr HO5⟩, ⟨zb⟩⟩
/-- list41: the bytes of a row's elements behind what is there. -/
def list41 : List S41 → List Int → Option (List Int)
  | [], acc => some acc
  | x :: r, acc => (class_iface.f 20 x.f0 x.f1).bind fun t => if acc.length + t.1.length ≤ 140737488355328 then list41 r (acc ++ t.1) else none
set_option maxHeartbeats 8000000 in
set_option maxRecDepth 100000 in
theorem list41.calls (A0 : Option Addr) (c0 : Nat) (l0 : List S41) (r : List Int) (w : World) (hr0 : Kd.C k41 w A0 l0.length l0) (hc0 : l0.length ≤ c0) (h : list41 l0 [(l0.length : Int) % 256] = some r) :
    Calls Try.prog 38 #[.slice A0 l0.length c0, .func (.func 39) #[] #[]] w fun e w' => ∃ v0_ : Value, e = .returned v0_ ∧ Kd.R (Kd.int .u8) 5 w' w.heap.size (fun _ => True) v0_ r ∧ Below w.heap.size w w' := by
  have hmax := Kd.C_max hr0
  have HR0 := Aside0.mk hr0
  have HC0 := Aside0.mk hc0
  have HMX := Aside0.mk hmax
  have H0 := Aside0.mk h
  clear hr0 hc0 hmax h
  have HB := Aside0.mk (Below.refl w.heap.size w)
  have hu24 := Try.underlying24
  have hu33 := Try.underlying33
  go_enter Try.func38, Try.ntmps38
  go_wp2_with (first | ((with_reducible refine gate_dst (N := 13) rfl ?_); (try (refine gate_guard (by rfl) ?_; dsimp only)); refine Kd.R_lit (Kd.int .u8) _ 5 ?hg (N := 13) ?hd (xs := ([(l0.length : Int) % 256] : List Int)) (inner := [.int .u8 ((l0.length : Int) % 256)]) (ok := fun _ => True) (okp := fun _ => True) ?hr ?hp (fun _ hk => hk) trivial (Below.refl _ _) (Nat.le_refl _) (by simp) ?_; (case hd => rfl); (case hg => rfl); (case hr => first | (go_simp; done) | (go_simp; rfl)); (case hp => exact (Reps.one (show Kd.M (Kd.int .u8) _ _ _ ((l0.length : Int) % 256) [.int .u8 ((l0.length : Int) % 256)] from rfl) (Reps.none _ _))); intro v5 w5 ho hb hg_ hnew_; clear hg_ hnew_; have n0_ := Aside0.mk (Kd.R_lower ho (below_size (zb))); have n1_ := Aside0.mk (below_step (zb) hb); clear HB; have HO5 := n0_; have HB := n1_; clear n0_ n1_ hb ho))
  go_loopg [5, 16] l0.length (fun kq v5 v16 w' => ∃ (acc : List Int) (x : Int), v16 = .int .i64 x ∧ Aside0 (0 ≤ x ∧ (kq : Int) + x = l0.length) ∧ Aside0 (list41 (l0.drop x.toNat) acc = some r) ∧ Aside0 (Kd.R (Kd.int .u8) 5 w' w.heap.size (fun _ => True) v5 acc) ∧ Aside0 (Below w.heap.size w w'))
  case atStart => exact ⟨_, 0, rfl, ⟨by simp⟩, H0, ⟨zr HO5⟩, ⟨zb⟩⟩
  case round =>
    clear HB HO5 H0
    obtain ⟨acc, x, rfl, HI, HA, HO5, HB⟩ := hrel
    cases gk with
    | zero =>
      have e4 : x = (l0.length : Int) := by have := HI.out; omega
      have hA := HA.out
      rw [List.drop_eq_nil_of_le (by omega)] at hA
      unfold list41 at hA
      obtain rfl := Option.some.inj hA
      have c2 : decide (x < (l0.length : Int)) = false := decide_eq_false (by omega)
      clear e4 hA HA
      go_wp2
      go_ret
      exact ⟨_, rfl, by (with_reducible repeat (first | apply Kd.R_alloc | apply Kd.R_drewN | apply Kd.R_drew)); exact HO5.out, zb⟩
    | succ k1 =>
      have p1 : 0 ≤ x := HI.out.1
      have p2 : x < (l0.length : Int) := by have := HI.out; omega
      have c2 : decide (x < (l0.length : Int)) = true := decide_eq_true p2
      have hw : wrap64 (x + 1) = x + 1 := by have := HI.out; have := HMX.out; unfold wrap64; omega
      have HW := Aside0.mk hw
      clear hw
      have hd_ : l0.drop x.toNat = (rd_T41 l0 x) :: l0.drop (x.toNat + 1) := by
        rw [List.drop_eq_getElem_cons (by omega)]
        congr 1
        simp only [rd_T41]
        rw [List.getD_eq_getElem?_getD, List.getElem?_eq_getElem (by omega), Option.getD_some]
      have hA := HA.out
      rw [hd_] at hA
      unfold list41 at hA
      clear HA hd_
      obtain ⟨ad, A1, c1, e0_, hx0, hx1, hl1, hc1⟩ := at_T41 (Kd.C_below HR0.out HB.out) x p1 p2
      cases e0_
      obtain ⟨e_, he_⟩ : ∃ s_ : S41, s_ = rd_T41 l0 x := ⟨_, rfl⟩
      rw [← he_] at hA hx0 hx1 hl1 hc1
      have HL1 := Aside0.mk hl1
      have HC1 := Aside0.mk hc1
      clear he_ hl1 hc1
      obtain ⟨⟨q1, q2⟩, ht, hA⟩ := Option.bind_eq_some_iff.mp hA
      have HT := Aside0.mk ht
      replace hA : (if acc.length + q1.length ≤ 140737488355328 then list41 (l0.drop (x.toNat + 1)) (acc ++ q1) else none) = some r := hA
      by_cases hq_ : acc.length + q1.length ≤ 140737488355328
      rotate_left
      · rw [if_neg hq_] at hA
        cases hA
      rw [if_pos hq_] at hA
      have HQ := Aside0.mk hq_
      have HA := Aside0.mk hA
      clear ht hA hq_
      replace p1 := eq_true p1
      replace p2 := eq_true p2
      go_wp2_with (first | (go_at_call 39; (with_reducible refine (class_iface.calls 20 e_.f0 A1 c1 e_.f1 q1 q2 _ ?s1 HL1.out HT.out).mono ?_); (case s1 => first | exact HC1.out | exact Kd.C_alloc HC1.out _); rintro e w1 ⟨v8, rfl, ho, hb⟩; have n0_ := Aside0.mk (Kd.R_below (zr HO5) hb); have n2_ := Aside0.mk (Kd.R_lower ho (below_size (zb))); have n1_ := Aside0.mk (below_step (zb) hb); clear HB HO5 hb ho; have HB := n1_; have HO5 := n0_; have HO8 := n2_; clear n0_ n1_ n2_; obtain ⟨Ao8, co8, eo8⟩ := Kd.R_slice HO8.out; subst eo8) | ((with_reducible refine gate_builtin (b := .append) (xs := #[.tmp 26, .tmp 27]) rfl ?_); at_builtin; refine Kd.R_append_rows (Kd.int .u8) (w0 := w) w.heap.size rfl (.tmp 26) (.tmp 27) 24 5 (.int .u8 0) 1 rfl Try.underlying24 info5 rfl (by decide) (by omega) _ acc q1 _ _ _ (fun _ => True) (fun _ => False) rfl rfl ?aO ?aR (fun _ _ h => h) (fun _ h => h.elim) ?aF ?aB ?aS ?aL ?_; (case aR => exact (Kd.R_reads' (zr HO8)).2.2); (case aB => exact (zb)); (case aF => exact (fun _ _ => trivial)); (case aO => exact (zr HO5)); (case aS => exact (below_size (zb))); (case aL => have := HQ.out; omega); intro v48 w48 ho hb hg hat; have n0_ := Aside0.mk ho; have n1_ := Aside0.mk hb; clear HO5 HB HO8; have HO5 := n0_; have HB := n1_; clear n0_ n1_ ho hb hg hat))
      go_roundg k1
      case measure => omega
      case rel => exact ⟨_, x + 1, by rw [HW.out], ⟨by have := HI.out; omega⟩, ⟨by rw [show (x + 1).toNat = x.toNat + 1 from by have := HI.out; omega]; exact HA.out⟩, ⟨zr HO5⟩, ⟨zb⟩⟩
/-- list44: the bytes of a row's elements behind what is there. -/
def list44 : List S44 → List Int → Option (List Int)
  | [], acc => some acc
  | x :: r, acc => (types_Put.f 20 x.f0 x.f1).bind fun t => if acc.length + t.1.length ≤ 140737488355328 then list44 r (acc ++ t.1) else none
set_option maxHeartbeats 8000000 in
set_option maxRecDepth 100000 in
theorem list44.calls (A0 : Option Addr) (c0 : Nat) (l0 : List S44) (r : List Int) (w : World) (hr0 : Kd.C k44 w A0 l0.length l0) (hc0 : l0.length ≤ c0) (h : list44 l0 [(l0.length : Int) % 256] = some r) :
    Calls Try.prog 40 #[.slice A0 l0.length c0, .func (.func 41) #[] #[]] w fun e w' => ∃ v0_ : Value, e = .returned v0_ ∧ Kd.R (Kd.int .u8) 5 w' w.heap.size (fun _ => True) v0_ r ∧ Below w.heap.size w w' := by
  have hmax := Kd.C_max hr0
  have HR0 := Aside0.mk hr0
  have HC0 := Aside0.mk hc0
  have HMX := Aside0.mk hmax
  have H0 := Aside0.mk h
  clear hr0 hc0 hmax h
  have HB := Aside0.mk (Below.refl w.heap.size w)
  have hu24 := Try.underlying24
  have hu34 := Try.underlying34
  go_enter Try.func40, Try.ntmps40
  go_wp2_with (first | ((with_reducible refine gate_dst (N := 13) rfl ?_); (try (refine gate_guard (by rfl) ?_; dsimp only)); refine Kd.R_lit (Kd.int .u8) _ 5 ?hg (N := 13) ?hd (xs := ([(l0.length : Int) % 256] : List Int)) (inner := [.int .u8 ((l0.length : Int) % 256)]) (ok := fun _ => True) (okp := fun _ => True) ?hr ?hp (fun _ hk => hk) trivial (Below.refl _ _) (Nat.le_refl _) (by simp) ?_; (case hd => rfl); (case hg => rfl); (case hr => first | (go_simp; done) | (go_simp; rfl)); (case hp => exact (Reps.one (show Kd.M (Kd.int .u8) _ _ _ ((l0.length : Int) % 256) [.int .u8 ((l0.length : Int) % 256)] from rfl) (Reps.none _ _))); intro v5 w5 ho hb hg_ hnew_; clear hg_ hnew_; have n0_ := Aside0.mk (Kd.R_lower ho (below_size (zb))); have n1_ := Aside0.mk (below_step (zb) hb); clear HB; have HO5 := n0_; have HB := n1_; clear n0_ n1_ hb ho))
  go_loopg [5, 16] l0.length (fun kq v5 v16 w' => ∃ (acc : List Int) (x : Int), v16 = .int .i64 x ∧ Aside0 (0 ≤ x ∧ (kq : Int) + x = l0.length) ∧ Aside0 (list44 (l0.drop x.toNat) acc = some r) ∧ Aside0 (Kd.R (Kd.int .u8) 5 w' w.heap.size (fun _ => True) v5 acc) ∧ Aside0 (Below w.heap.size w w'))
  case atStart => exact ⟨_, 0, rfl, ⟨by simp⟩, H0, ⟨zr HO5⟩, ⟨zb⟩⟩
  case round =>
    clear HB HO5 H0
    obtain ⟨acc, x, rfl, HI, HA, HO5, HB⟩ := hrel
    cases gk with
    | zero =>
      have e4 : x = (l0.length : Int) := by have := HI.out; omega
      have hA := HA.out
      rw [List.drop_eq_nil_of_le (by omega)] at hA
      unfold list44 at hA
      obtain rfl := Option.some.inj hA
      have c2 : decide (x < (l0.length : Int)) = false := decide_eq_false (by omega)
      clear e4 hA HA
      go_wp2
      go_ret
      exact ⟨_, rfl, by (with_reducible repeat (first | apply Kd.R_alloc | apply Kd.R_drewN | apply Kd.R_drew)); exact HO5.out, zb⟩
    | succ k1 =>
      have p1 : 0 ≤ x := HI.out.1
      have p2 : x < (l0.length : Int) := by have := HI.out; omega
      have c2 : decide (x < (l0.length : Int)) = true := decide_eq_true p2
      have hw : wrap64 (x + 1) = x + 1 := by have := HI.out; have := HMX.out; unfold wrap64; omega
      have HW := Aside0.mk hw
      clear hw
      have hd_ : l0.drop x.toNat = (rd_T44 l0 x) :: l0.drop (x.toNat + 1) := by
        rw [List.drop_eq_getElem_cons (by omega)]
        congr 1
        simp only [rd_T44]
        rw [List.getD_eq_getElem?_getD, List.getElem?_eq_getElem (by omega), Option.getD_some]
      have hA := HA.out
      rw [hd_] at hA
      unfold list44 at hA
      clear HA hd_
      obtain ⟨ad, e0_, hx0, hx1⟩ := at_T44 (Kd.C_below HR0.out HB.out) x p1 p2
      cases e0_
      obtain ⟨e_, he_⟩ : ∃ s_ : S44, s_ = rd_T44 l0 x := ⟨_, rfl⟩
      rw [← he_] at hA hx0 hx1
      clear he_ 
      obtain ⟨⟨q1, q2⟩, ht, hA⟩ := Option.bind_eq_some_iff.mp hA
      have HT := Aside0.mk ht
      replace hA : (if acc.length + q1.length ≤ 140737488355328 then list44 (l0.drop (x.toNat + 1)) (acc ++ q1) else none) = some r := hA
      by_cases hq_ : acc.length + q1.length ≤ 140737488355328
      rotate_left
      · rw [if_neg hq_] at hA
        cases hA
      rw [if_pos hq_] at hA
      have HQ := Aside0.mk hq_
      have HA := Aside0.mk hA
      clear ht hA hq_
      replace p1 := eq_true p1
      replace p2 := eq_true p2
      go_wp2_with (first | (go_at_call 41; (with_reducible refine (types_Put.calls 20 e_.f0 e_.f1 q1 q2 _  HT.out).mono ?_); skip; rintro e w1 ⟨v8, rfl, ho, hb⟩; have n0_ := Aside0.mk (Kd.R_below (zr HO5) hb); have n2_ := Aside0.mk (Kd.R_lower ho (below_size (zb))); have n1_ := Aside0.mk (below_step (zb) hb); clear HB HO5 hb ho; have HB := n1_; have HO5 := n0_; have HO8 := n2_; clear n0_ n1_ n2_; obtain ⟨Ao8, co8, eo8⟩ := Kd.R_slice HO8.out; subst eo8) | ((with_reducible refine gate_builtin (b := .append) (xs := #[.tmp 26, .tmp 27]) rfl ?_); at_builtin; refine Kd.R_append_rows (Kd.int .u8) (w0 := w) w.heap.size rfl (.tmp 26) (.tmp 27) 24 5 (.int .u8 0) 1 rfl Try.underlying24 info5 rfl (by decide) (by omega) _ acc q1 _ _ _ (fun _ => True) (fun _ => False) rfl rfl ?aO ?aR (fun _ _ h => h) (fun _ h => h.elim) ?aF ?aB ?aS ?aL ?_; (case aR => exact (Kd.R_reads' (zr HO8)).2.2); (case aB => exact (zb)); (case aF => exact (fun _ _ => trivial)); (case aO => exact (zr HO5)); (case aS => exact (below_size (zb))); (case aL => have := HQ.out; omega); intro v48 w48 ho hb hg hat; have n0_ := Aside0.mk ho; have n1_ := Aside0.mk hb; clear HO5 HB HO8; have HO5 := n0_; have HB := n1_; clear n0_ n1_ ho hb hg hat))
      go_roundg k1
      case measure => omega
      case rel => exact ⟨_, x + 1, by rw [HW.out], ⟨by have := HI.out; omega⟩, ⟨by rw [show (x + 1).toNat = x.toNat + 1 from by have := HI.out; omega]; exact HA.out⟩, ⟨zr HO5⟩, ⟨zb⟩⟩
/-- list23: the bytes of a row's elements behind what is there. -/
def list23 : List Int → List Int → Option (List Int)
  | [], acc => some acc
  | x :: r, acc => (class_word.f 20 x).bind fun t => if acc.length + t.1.length ≤ 140737488355328 then list23 r (acc ++ t.1) else none
set_option maxHeartbeats 8000000 in
set_option maxRecDepth 100000 in
theorem list23.calls (A0 : Option Addr) (c0 : Nat) (l0 : List Int) (r : List Int) (w : World) (hr0 : Kd.C (Kd.int .u16) w A0 l0.length l0) (hc0 : l0.length ≤ c0) (h : list23 l0 [(l0.length : Int) % 256] = some r) :
    Calls Try.prog 42 #[.slice A0 l0.length c0, .func (.func 37) #[] #[]] w fun e w' => ∃ v0_ : Value, e = .returned v0_ ∧ Kd.R (Kd.int .u8) 5 w' w.heap.size (fun _ => True) v0_ r ∧ Below w.heap.size w w' := by
  have hmax := Kd.C_max hr0
  have HR0 := Aside0.mk hr0
  have HC0 := Aside0.mk hc0
  have HMX := Aside0.mk hmax
  have H0 := Aside0.mk h
  clear hr0 hc0 hmax h
  have HB := Aside0.mk (Below.refl w.heap.size w)
  have hu24 := Try.underlying24
  have hu35 := Try.underlying35
  go_enter Try.func42, Try.ntmps42
  go_wp2_with (first | ((with_reducible refine gate_dst (N := 13) rfl ?_); (try (refine gate_guard (by rfl) ?_; dsimp only)); refine Kd.R_lit (Kd.int .u8) _ 5 ?hg (N := 13) ?hd (xs := ([(l0.length : Int) % 256] : List Int)) (inner := [.int .u8 ((l0.length : Int) % 256)]) (ok := fun _ => True) (okp := fun _ => True) ?hr ?hp (fun _ hk => hk) trivial (Below.refl _ _) (Nat.le_refl _) (by simp) ?_; (case hd => rfl); (case hg => rfl); (case hr => first | (go_simp; done) | (go_simp; rfl)); (case hp => exact (Reps.one (show Kd.M (Kd.int .u8) _ _ _ ((l0.length : Int) % 256) [.int .u8 ((l0.length : Int) % 256)] from rfl) (Reps.none _ _))); intro v5 w5 ho hb hg_ hnew_; clear hg_ hnew_; have n0_ := Aside0.mk (Kd.R_lower ho (below_size (zb))); have n1_ := Aside0.mk (below_step (zb) hb); clear HB; have HO5 := n0_; have HB := n1_; clear n0_ n1_ hb ho))
  go_loopg [5, 16] l0.length (fun kq v5 v16 w' => ∃ (acc : List Int) (x : Int), v16 = .int .i64 x ∧ Aside0 (0 ≤ x ∧ (kq : Int) + x = l0.length) ∧ Aside0 (list23 (l0.drop x.toNat) acc = some r) ∧ Aside0 (Kd.R (Kd.int .u8) 5 w' w.heap.size (fun _ => True) v5 acc) ∧ Aside0 (Below w.heap.size w w'))
  case atStart => exact ⟨_, 0, rfl, ⟨by simp⟩, H0, ⟨zr HO5⟩, ⟨zb⟩⟩
  case round =>
    clear HB HO5 H0
    obtain ⟨acc, x, rfl, HI, HA, HO5, HB⟩ := hrel
    cases gk with
    | zero =>
      have e4 : x = (l0.length : Int) := by have := HI.out; omega
      have hA := HA.out
      rw [List.drop_eq_nil_of_le (by omega)] at hA
      unfold list23 at hA
      obtain rfl := Option.some.inj hA
      have c2 : decide (x < (l0.length : Int)) = false := decide_eq_false (by omega)
      clear e4 hA HA
      go_wp2
      go_ret
      exact ⟨_, rfl, by (with_reducible repeat (first | apply Kd.R_alloc | apply Kd.R_drewN | apply Kd.R_drew)); exact HO5.out, zb⟩
    | succ k1 =>
      have p1 : 0 ≤ x := HI.out.1
      have p2 : x < (l0.length : Int) := by have := HI.out; omega
      have c2 : decide (x < (l0.length : Int)) = true := decide_eq_true p2
      have hw : wrap64 (x + 1) = x + 1 := by have := HI.out; have := HMX.out; unfold wrap64; omega
      have HW := Aside0.mk hw
      clear hw
      have hd_ : l0.drop x.toNat = (rd l0 x) :: l0.drop (x.toNat + 1) := by
        rw [List.drop_eq_getElem_cons (by omega)]
        congr 1
        simp only [rd, rdOf]
        rw [List.getD_eq_getElem?_getD, List.getElem?_eq_getElem (by omega), Option.getD_some]
      have hA := HA.out
      rw [hd_] at hA
      unfold list23 at hA
      clear HA hd_
      obtain ⟨ad, e0_, hx0⟩ := Kd.at_int (Kd.C_below HR0.out HB.out) x p1 p2
      cases e0_
      obtain ⟨e_, he_⟩ : ∃ s_ : Int, s_ = rd l0 x := ⟨_, rfl⟩
      rw [← he_] at hA hx0
      clear he_ 
      obtain ⟨⟨q1, q2⟩, ht, hA⟩ := Option.bind_eq_some_iff.mp hA
      have HT := Aside0.mk ht
      replace hA : (if acc.length + q1.length ≤ 140737488355328 then list23 (l0.drop (x.toNat + 1)) (acc ++ q1) else none) = some r := hA
      by_cases hq_ : acc.length + q1.length ≤ 140737488355328
      rotate_left
      · rw [if_neg hq_] at hA
        cases hA
      rw [if_pos hq_] at hA
      have HQ := Aside0.mk hq_
      have HA := Aside0.mk hA
      clear ht hA hq_
      replace p1 := eq_true p1
      replace p2 := eq_true p2
      go_wp2_with (first | (go_at_call 37; (with_reducible refine (class_word.calls 20 e_ q1 q2 _  HT.out).mono ?_); skip; rintro e w1 ⟨v8, rfl, ho, hb⟩; have n0_ := Aside0.mk (Kd.R_below (zr HO5) hb); have n2_ := Aside0.mk (Kd.R_lower ho (below_size (zb))); have n1_ := Aside0.mk (below_step (zb) hb); clear HB HO5 hb ho; have HB := n1_; have HO5 := n0_; have HO8 := n2_; clear n0_ n1_ n2_; obtain ⟨Ao8, co8, eo8⟩ := Kd.R_slice HO8.out; subst eo8) | ((with_reducible refine gate_builtin (b := .append) (xs := #[.tmp 26, .tmp 27]) rfl ?_); at_builtin; refine Kd.R_append_rows (Kd.int .u8) (w0 := w) w.heap.size rfl (.tmp 26) (.tmp 27) 24 5 (.int .u8 0) 1 rfl Try.underlying24 info5 rfl (by decide) (by omega) _ acc q1 _ _ _ (fun _ => True) (fun _ => False) rfl rfl ?aO ?aR (fun _ _ h => h) (fun _ h => h.elim) ?aF ?aB ?aS ?aL ?_; (case aR => exact (Kd.R_reads' (zr HO8)).2.2); (case aB => exact (zb)); (case aF => exact (fun _ _ => trivial)); (case aO => exact (zr HO5)); (case aS => exact (below_size (zb))); (case aL => have := HQ.out; omega); intro v48 w48 ho hb hg hat; have n0_ := Aside0.mk ho; have n1_ := Aside0.mk hb; clear HO5 HB HO8; have HO5 := n0_; have HB := n1_; clear n0_ n1_ ho hb hg hat))
      go_roundg k1
      case measure => omega
      case rel => exact ⟨_, x + 1, by rw [HW.out], ⟨by have := HI.out; omega⟩, ⟨by rw [show (x + 1).toNat = x.toNat + 1 from by have := HI.out; omega]; exact HA.out⟩, ⟨zr HO5⟩, ⟨zb⟩⟩
def class_bytes.f (a0_0 : Int) (a0_1 : Int) (l0_2 : List (S41)) (l0_3 : List (S44)) (l0_4 : List Int) (l0_5 : List (S66)) : Option (List Int × Int) := if Go.bits .and .u8 a0_0 1 = 0 then ((class_word.f 20 a0_1).bind fun s => (list41 l0_2 [(l0_2.length : Int) % 256]).bind fun b2 => (list44 l0_3 [(l0_3.length : Int) % 256]).bind fun b3 => (list23 l0_4 [(l0_4.length : Int) % 256]).bind fun b4 => if [a0_0].length + s.1.length + b2.length + b3.length + b4.length ≤ 140737488355328 then some (((([a0_0] ++ s.1) ++ b2) ++ b3) ++ b4, 0) else none) else ((list66 l0_5 [(l0_5.length : Int) % 256]).bind fun b5 => if [a0_0].length + b5.length ≤ 140737488355328 then some ([a0_0] ++ b5, 0) else none)
set_option maxHeartbeats 8000000 in
set_option maxRecDepth 100000 in
theorem class_bytes.calls (a0_0 : Int) (a0_1 : Int) (A0_2 : Option Addr) (c0_2 : Nat) (l0_2 : List (S41)) (A0_3 : Option Addr) (c0_3 : Nat) (l0_3 : List (S44)) (A0_4 : Option Addr) (c0_4 : Nat) (l0_4 : List (Int)) (A0_5 : Option Addr) (c0_5 : Nat) (l0_5 : List (S66)) (r1 : List Int) (r2 : Int) (w : World) (hr0_2 : Kd.C k41 w A0_2 l0_2.length l0_2) (hc0_2 : l0_2.length ≤ c0_2) (hr0_3 : Kd.C k44 w A0_3 l0_3.length l0_3) (hc0_3 : l0_3.length ≤ c0_3) (hr0_4 : Kd.C (Kd.int .u16) w A0_4 l0_4.length l0_4) (hc0_4 : l0_4.length ≤ c0_4) (hr0_5 : Kd.C k66 w A0_5 l0_5.length l0_5) (hc0_5 : l0_5.length ≤ c0_5) (h : class_bytes.f a0_0 a0_1 l0_2 l0_3 l0_4 l0_5 = some (r1, r2)) :
    Calls Try.prog 20 #[.agg #[.int .u8 a0_0, .int .u16 a0_1, .slice A0_2 l0_2.length c0_2, .slice A0_3 l0_3.length c0_3, .slice A0_4 l0_4.length c0_4, .slice A0_5 l0_5.length c0_5]] w fun e w' => ∃ v0_ : Value, e = .returned (.tuple #[v0_, .int .i64 r2]) ∧ Kd.R (Kd.int .u8) 5 w' w.heap.size (fun _ => True) v0_ r1 ∧ Below w.heap.size w w' := by
  have hu38 := Try.underlying38
  have hu33 := Try.underlying33
  have hu34 := Try.underlying34
  have hu35 := Try.underlying35
  have hu36 := Try.underlying36
  have hu24 := Try.underlying24
  have HR0_2 := Aside0.mk hr0_2
  have HC0_2 := Aside0.mk hc0_2
  clear hr0_2 hc0_2
  have HR0_3 := Aside0.mk hr0_3
  have HC0_3 := Aside0.mk hc0_3
  clear hr0_3 hc0_3
  have HR0_4 := Aside0.mk hr0_4
  have HC0_4 := Aside0.mk hc0_4
  clear hr0_4 hc0_4
  have HR0_5 := Aside0.mk hr0_5
  have HC0_5 := Aside0.mk hc0_5
  clear hr0_5 hc0_5
  have HB := Aside0.mk (Below.refl w.heap.size w)
  unfold class_bytes.f at h
  by_cases c2 : Go.bits .and .u8 a0_0 1 = 0
  · rw [if_pos c2] at h
    have c2b0 : (Go.bits .and .u8 a0_0 1 == 0) = true := beq_iff_eq.mpr c2
    have c2b1 : (Go.bits .and .u8 a0_0 1 != 0) = false := bne_eq_false_iff_eq.mpr c2
    clear c2
    obtain ⟨⟨s1, s2⟩, ht, h⟩ := Option.bind_eq_some_iff.mp h
    have H1 := Aside0.mk ht
    clear ht
    obtain ⟨b2, ht, h⟩ := Option.bind_eq_some_iff.mp h
    have HL2 := Aside0.mk ht
    clear ht
    obtain ⟨b3, ht, h⟩ := Option.bind_eq_some_iff.mp h
    have HL3 := Aside0.mk ht
    clear ht
    obtain ⟨b4, ht, h⟩ := Option.bind_eq_some_iff.mp h
    have HL4 := Aside0.mk ht
    clear ht
    replace h : (if [a0_0].length + s1.length + b2.length + b3.length + b4.length ≤ 140737488355328 then some (((([a0_0] ++ s1) ++ b2) ++ b3) ++ b4, 0) else none) = some (r1, r2) := h
    by_cases hq_ : [a0_0].length + s1.length + b2.length + b3.length + b4.length ≤ 140737488355328
    rotate_left
    · rw [if_neg hq_] at h
      cases h
    rw [if_pos hq_] at h
    have HQ := Aside0.mk hq_
    simp only [Option.some.injEq, Prod.mk.injEq] at h
    obtain ⟨hr1_, rfl⟩ := h
    have HR1 := Aside0.mk hr1_
    clear hq_ hr1_
    go_enter Try.func20, Try.ntmps20
    go_wp2_with (first | ((with_reducible refine gate_dst (N := 1) rfl ?_); refine zbox (N := 1) (cs := #[.int .u8 a0_0, .int .u16 a0_1, .slice A0_2 l0_2.length c0_2, .slice A0_3 l0_3.length c0_3, .slice A0_4 l0_4.length c0_4, .slice A0_5 l0_5.length c0_5]) (t := 38) ?_; intro gb hg w2 hbox hb; have n0_ := Aside0.mk (below_step (zb) hb); have BK := Aside0.mk (hbox); clear HB; have HB := n0_; clear n0_; clear hb hbox hg; obtain ⟨q0, q1, q2, q3, q4, q5⟩ := cells6 BK.out) | ((with_reducible refine gate_dst (N := 9) rfl ?_); (try (refine gate_guard (by rfl) ?_; dsimp only)); refine Kd.R_lit (Kd.int .u8) _ 5 ?hg (N := 9) ?hd (xs := ([a0_0] : List Int)) (inner := [.int .u8 a0_0]) (ok := fun _ => True) (okp := fun _ => True) ?hr ?hp (fun _ hk => hk) trivial (Below.refl _ _) (Nat.le_refl _) (by simp) ?_; (case hd => rfl); (case hg => rfl); (case hr => first | (go_simp; done) | (go_simp; rfl)); (case hp => exact (Reps.one (show Kd.M (Kd.int .u8) _ _ _ a0_0 [.int .u8 a0_0] from rfl) (Reps.none _ _))); intro v4 w5 ho hb hg_ hnew_; clear hg_ hnew_; have n2_ := Aside0.mk (blk_below BK.out hb); have n0_ := Aside0.mk (Kd.R_lower ho (below_size (zb))); have n1_ := Aside0.mk (below_step (zb) hb); clear HB BK q0 q1 q2 q3 q4 q5; have HO4 := n0_; have HB := n1_; have BK := n2_; clear n0_ n1_ n2_ hb ho; obtain ⟨q0, q1, q2, q3, q4, q5⟩ := cells6 BK.out) | (go_at_call 37; (with_reducible refine (class_word.calls 20 a0_1 s1 s2 _ H1.out).mono ?_); skip; rintro e w6 ⟨vn, rfl, ho, hb⟩; have n0_ := Aside0.mk (Kd.R_below (zr HO4) hb); have n2_ := Aside0.mk (Kd.R_lower ho (below_size (zb))); have n3_ := Aside0.mk (blk_below BK.out hb); have n1_ := Aside0.mk (below_step (zb) hb); clear HB HO4 BK hb ho q0 q1 q2 q3 q4 q5; have HB := n1_; have HO4 := n0_; have HON := n2_; have BK := n3_; clear n0_ n1_ n2_ n3_; obtain ⟨Aon, con, eon⟩ := Kd.R_slice HON.out; subst eon; obtain ⟨q0, q1, q2, q3, q4, q5⟩ := cells6 BK.out) | ((with_reducible refine gate_builtin (b := .append) (xs := #[.tmp 25, .tmp 26]) rfl ?_); at_builtin; refine Kd.R_append_rows (Kd.int .u8) (w0 := w) w.heap.size rfl (.tmp 25) (.tmp 26) 24 5 (.int .u8 0) 1 rfl Try.underlying24 info5 rfl (by decide) (by omega) _ [a0_0] s1 _ _ _ (fun _ => True) (fun _ => False) rfl rfl ?aO ?aR (fun _ _ h => h) (fun _ h => h.elim) ?aF ?aB ?aS ?aL ?_; (case aR => exact (Kd.R_reads' (zr HON)).2.2); (case aB => exact (zb)); (case aF => exact (fun _ _ => trivial)); (case aO => exact (zr HO4)); (case aS => exact (below_size (zb))); (case aL => have := HQ.out; simp only [List.length_append, List.length_cons, List.length_nil] at this ⊢; omega); intro v48 w7 ho hb hg hat; have n3_ := Aside0.mk (blk_grown BK.out hg (Kd.R_ne HO4.out BK.out (by decide))); have n0_ := Aside0.mk ho; have n1_ := Aside0.mk hb; clear HO4 HB HON BK q0 q1 q2 q3 q4 q5; have HO4 := n0_; have HB := n1_; have BK := n3_; clear n0_ n1_ n3_ ho hb hg hat; obtain ⟨q0, q1, q2, q3, q4, q5⟩ := cells6 BK.out) | (go_at_call 38; (with_reducible refine (list41.calls _ _ l0_2 b2 _ ?s1 HC0_2.out HL2.out).mono ?_); (case s1 => first | exact HR0_2.out | exact Kd.C_below HR0_2.out HB.out); rintro e w8 ⟨vn, rfl, ho, hb⟩; have n0_ := Aside0.mk (Kd.R_below (zr HO4) hb); have n2_ := Aside0.mk (Kd.R_lower ho (below_size (zb))); have n3_ := Aside0.mk (blk_below BK.out hb); have n1_ := Aside0.mk (below_step (zb) hb); clear HB HO4 BK hb ho q0 q1 q2 q3 q4 q5; have HB := n1_; have HO4 := n0_; have HON := n2_; have BK := n3_; clear n0_ n1_ n2_ n3_; obtain ⟨Aon, con, eon⟩ := Kd.R_slice HON.out; subst eon; obtain ⟨q0, q1, q2, q3, q4, q5⟩ := cells6 BK.out) | ((with_reducible refine gate_builtin (b := .append) (xs := #[.tmp 28, .tmp 31]) rfl ?_); at_builtin; refine Kd.R_append_rows (Kd.int .u8) (w0 := w) w.heap.size rfl (.tmp 28) (.tmp 31) 24 5 (.int .u8 0) 1 rfl Try.underlying24 info5 rfl (by decide) (by omega) _ ([a0_0] ++ s1) b2 _ _ _ (fun _ => True) (fun _ => False) rfl rfl ?aO ?aR (fun _ _ h => h) (fun _ h => h.elim) ?aF ?aB ?aS ?aL ?_; (case aR => exact (Kd.R_reads' (zr HON)).2.2); (case aB => exact (zb)); (case aF => exact (fun _ _ => trivial)); (case aO => exact (zr HO4)); (case aS => exact (below_size (zb))); (case aL => have := HQ.out; simp only [List.length_append, List.length_cons, List.length_nil] at this ⊢; omega); intro v48 w9 ho hb hg hat; have n3_ := Aside0.mk (blk_grown BK.out hg (Kd.R_ne HO4.out BK.out (by decide))); have n0_ := Aside0.mk ho; have n1_ := Aside0.mk hb; clear HO4 HB HON BK q0 q1 q2 q3 q4 q5; have HO4 := n0_; have HB := n1_; have BK := n3_; clear n0_ n1_ n3_ ho hb hg hat; obtain ⟨q0, q1, q2, q3, q4, q5⟩ := cells6 BK.out) | (go_at_call 40; (with_reducible refine (list44.calls _ _ l0_3 b3 _ ?s1 HC0_3.out HL3.out).mono ?_); (case s1 => first | exact HR0_3.out | exact Kd.C_below HR0_3.out HB.out); rintro e w10 ⟨vn, rfl, ho, hb⟩; have n0_ := Aside0.mk (Kd.R_below (zr HO4) hb); have n2_ := Aside0.mk (Kd.R_lower ho (below_size (zb))); have n3_ := Aside0.mk (blk_below BK.out hb); have n1_ := Aside0.mk (below_step (zb) hb); clear HB HO4 BK hb ho q0 q1 q2 q3 q4 q5; have HB := n1_; have HO4 := n0_; have HON := n2_; have BK := n3_; clear n0_ n1_ n2_ n3_; obtain ⟨Aon, con, eon⟩ := Kd.R_slice HON.out; subst eon; obtain ⟨q0, q1, q2, q3, q4, q5⟩ := cells6 BK.out) | ((with_reducible refine gate_builtin (b := .append) (xs := #[.tmp 33, .tmp 36]) rfl ?_); at_builtin; refine Kd.R_append_rows (Kd.int .u8) (w0 := w) w.heap.size rfl (.tmp 33) (.tmp 36) 24 5 (.int .u8 0) 1 rfl Try.underlying24 info5 rfl (by decide) (by omega) _ (([a0_0] ++ s1) ++ b2) b3 _ _ _ (fun _ => True) (fun _ => False) rfl rfl ?aO ?aR (fun _ _ h => h) (fun _ h => h.elim) ?aF ?aB ?aS ?aL ?_; (case aR => exact (Kd.R_reads' (zr HON)).2.2); (case aB => exact (zb)); (case aF => exact (fun _ _ => trivial)); (case aO => exact (zr HO4)); (case aS => exact (below_size (zb))); (case aL => have := HQ.out; simp only [List.length_append, List.length_cons, List.length_nil] at this ⊢; omega); intro v48 w11 ho hb hg hat; have n3_ := Aside0.mk (blk_grown BK.out hg (Kd.R_ne HO4.out BK.out (by decide))); have n0_ := Aside0.mk ho; have n1_ := Aside0.mk hb; clear HO4 HB HON BK q0 q1 q2 q3 q4 q5; have HO4 := n0_; have HB := n1_; have BK := n3_; clear n0_ n1_ n3_ ho hb hg hat; obtain ⟨q0, q1, q2, q3, q4, q5⟩ := cells6 BK.out) | (go_at_call 42; (with_reducible refine (list23.calls _ _ l0_4 b4 _ ?s1 HC0_4.out HL4.out).mono ?_); (case s1 => first | exact HR0_4.out | exact Kd.C_below HR0_4.out HB.out); rintro e w12 ⟨vn, rfl, ho, hb⟩; have n0_ := Aside0.mk (Kd.R_below (zr HO4) hb); have n2_ := Aside0.mk (Kd.R_lower ho (below_size (zb))); have n3_ := Aside0.mk (blk_below BK.out hb); have n1_ := Aside0.mk (below_step (zb) hb); clear HB HO4 BK hb ho q0 q1 q2 q3 q4 q5; have HB := n1_; have HO4 := n0_; have HON := n2_; have BK := n3_; clear n0_ n1_ n2_ n3_; obtain ⟨Aon, con, eon⟩ := Kd.R_slice HON.out; subst eon; obtain ⟨q0, q1, q2, q3, q4, q5⟩ := cells6 BK.out) | ((with_reducible refine gate_builtin (b := .append) (xs := #[.tmp 38, .tmp 41]) rfl ?_); at_builtin; refine Kd.R_append_rows (Kd.int .u8) (w0 := w) w.heap.size rfl (.tmp 38) (.tmp 41) 24 5 (.int .u8 0) 1 rfl Try.underlying24 info5 rfl (by decide) (by omega) _ ((([a0_0] ++ s1) ++ b2) ++ b3) b4 _ _ _ (fun _ => True) (fun _ => False) rfl rfl ?aO ?aR (fun _ _ h => h) (fun _ h => h.elim) ?aF ?aB ?aS ?aL ?_; (case aR => exact (Kd.R_reads' (zr HON)).2.2); (case aB => exact (zb)); (case aF => exact (fun _ _ => trivial)); (case aO => exact (zr HO4)); (case aS => exact (below_size (zb))); (case aL => have := HQ.out; simp only [List.length_append, List.length_cons, List.length_nil] at this ⊢; omega); intro v48 w13 ho hb hg hat; have n3_ := Aside0.mk (blk_grown BK.out hg (Kd.R_ne HO4.out BK.out (by decide))); have n0_ := Aside0.mk ho; have n1_ := Aside0.mk hb; clear HO4 HB HON BK q0 q1 q2 q3 q4 q5; have HO4 := n0_; have HB := n1_; have BK := n3_; clear n0_ n1_ n3_ ho hb hg hat; obtain ⟨q0, q1, q2, q3, q4, q5⟩ := cells6 BK.out))
    go_ret2
    exact ⟨_, rfl, by rw [← HR1.out]; exact (zr HO4), zb⟩
  · rw [if_neg c2] at h
    have c2b0 : (Go.bits .and .u8 a0_0 1 == 0) = false := beq_eq_false_iff_ne.mpr c2
    have c2b1 : (Go.bits .and .u8 a0_0 1 != 0) = true := bne_iff_ne.mpr c2
    clear c2
    obtain ⟨b5, ht, h⟩ := Option.bind_eq_some_iff.mp h
    have HL5 := Aside0.mk ht
    clear ht
    by_cases hq_ : [a0_0].length + b5.length ≤ 140737488355328
    rotate_left
    · rw [if_neg hq_] at h
      cases h
    rw [if_pos hq_] at h
    have HQ := Aside0.mk hq_
    simp only [Option.some.injEq, Prod.mk.injEq] at h
    obtain ⟨hr1_, rfl⟩ := h
    have HR1 := Aside0.mk hr1_
    clear hq_ hr1_
    go_enter Try.func20, Try.ntmps20
    go_wp2_with (first | ((with_reducible refine gate_dst (N := 1) rfl ?_); refine zbox (N := 1) (cs := #[.int .u8 a0_0, .int .u16 a0_1, .slice A0_2 l0_2.length c0_2, .slice A0_3 l0_3.length c0_3, .slice A0_4 l0_4.length c0_4, .slice A0_5 l0_5.length c0_5]) (t := 38) ?_; intro gb hg w2 hbox hb; have n0_ := Aside0.mk (below_step (zb) hb); have BK := Aside0.mk (hbox); clear HB; have HB := n0_; clear n0_; clear hb hbox hg; obtain ⟨q0, q1, q2, q3, q4, q5⟩ := cells6 BK.out) | ((with_reducible refine gate_dst (N := 9) rfl ?_); (try (refine gate_guard (by rfl) ?_; dsimp only)); refine Kd.R_lit (Kd.int .u8) _ 5 ?hg (N := 9) ?hd (xs := ([a0_0] : List Int)) (inner := [.int .u8 a0_0]) (ok := fun _ => True) (okp := fun _ => True) ?hr ?hp (fun _ hk => hk) trivial (Below.refl _ _) (Nat.le_refl _) (by simp) ?_; (case hd => rfl); (case hg => rfl); (case hr => first | (go_simp; done) | (go_simp; rfl)); (case hp => exact (Reps.one (show Kd.M (Kd.int .u8) _ _ _ a0_0 [.int .u8 a0_0] from rfl) (Reps.none _ _))); intro v4 w5 ho hb hg_ hnew_; clear hg_ hnew_; have n2_ := Aside0.mk (blk_below BK.out hb); have n0_ := Aside0.mk (Kd.R_lower ho (below_size (zb))); have n1_ := Aside0.mk (below_step (zb) hb); clear HB BK q0 q1 q2 q3 q4 q5; have HO4 := n0_; have HB := n1_; have BK := n2_; clear n0_ n1_ n2_ hb ho; obtain ⟨q0, q1, q2, q3, q4, q5⟩ := cells6 BK.out) | (go_at_call 36; (with_reducible refine (list66.calls _ _ l0_5 b5 _ ?s1 HC0_5.out HL5.out).mono ?_); (case s1 => first | exact HR0_5.out | exact Kd.C_below HR0_5.out HB.out); rintro e w8 ⟨vn, rfl, ho, hb⟩; have n0_ := Aside0.mk (Kd.R_below (zr HO4) hb); have n2_ := Aside0.mk (Kd.R_lower ho (below_size (zb))); have n3_ := Aside0.mk (blk_below BK.out hb); have n1_ := Aside0.mk (below_step (zb) hb); clear HB HO4 BK hb ho q0 q1 q2 q3 q4 q5; have HB := n1_; have HO4 := n0_; have HON := n2_; have BK := n3_; clear n0_ n1_ n2_ n3_; obtain ⟨Aon, con, eon⟩ := Kd.R_slice HON.out; subst eon; obtain ⟨q0, q1, q2, q3, q4, q5⟩ := cells6 BK.out) | ((with_reducible refine gate_builtin (b := .append) (xs := #[.tmp 14, .tmp 17]) rfl ?_); at_builtin; refine Kd.R_append_rows (Kd.int .u8) (w0 := w) w.heap.size rfl (.tmp 14) (.tmp 17) 24 5 (.int .u8 0) 1 rfl Try.underlying24 info5 rfl (by decide) (by omega) _ [a0_0] b5 _ _ _ (fun _ => True) (fun _ => False) rfl rfl ?aO ?aR (fun _ _ h => h) (fun _ h => h.elim) ?aF ?aB ?aS ?aL ?_; (case aR => exact (Kd.R_reads' (zr HON)).2.2); (case aB => exact (zb)); (case aF => exact (fun _ _ => trivial)); (case aO => exact (zr HO4)); (case aS => exact (below_size (zb))); (case aL => have := HQ.out; simp only [List.length_append, List.length_cons, List.length_nil] at this ⊢; omega); intro v48 w9 ho hb hg hat; have n3_ := Aside0.mk (blk_grown BK.out hg (Kd.R_ne HO4.out BK.out (by decide))); have n0_ := Aside0.mk ho; have n1_ := Aside0.mk hb; clear HO4 HB HON BK q0 q1 q2 q3 q4 q5; have HO4 := n0_; have HB := n1_; have BK := n3_; clear n0_ n1_ n3_ ho hb hg hat; obtain ⟨q0, q1, q2, q3, q4, q5⟩ := cells6 BK.out))
    go_ret2
    exact ⟨_, rfl, by rw [← HR1.out]; exact (zr HO4), zb⟩
/-- list38: the bytes of a row's elements behind what is there. -/
def list38 : List S38 → List Int → Option (List Int)
  | [], acc => some acc
  | x :: r, acc => (class_bytes.f x.f0 x.f1 x.f2 x.f3 x.f4 x.f5).bind fun t => if acc.length + t.1.length ≤ 140737488355328 then list38 r (acc ++ t.1) else none
set_option maxHeartbeats 8000000 in
set_option maxRecDepth 100000 in
theorem list38.calls (A0 : Option Addr) (c0 : Nat) (l0 : List S38) (r : List Int) (w : World) (hr0 : Kd.C k38 w A0 l0.length l0) (hc0 : l0.length ≤ c0) (h : list38 l0 [(l0.length : Int) % 256] = some r) :
    Calls Try.prog 19 #[.slice A0 l0.length c0, .func (.func 20) #[] #[]] w fun e w' => ∃ v0_ : Value, e = .returned v0_ ∧ Kd.R (Kd.int .u8) 5 w' w.heap.size (fun _ => True) v0_ r ∧ Below w.heap.size w w' := by
  have hmax := Kd.C_max hr0
  have HR0 := Aside0.mk hr0
  have HC0 := Aside0.mk hc0
  have HMX := Aside0.mk hmax
  have H0 := Aside0.mk h
  clear hr0 hc0 hmax h
  have HB := Aside0.mk (Below.refl w.heap.size w)
  have hu22 := Try.underlying22
  have hu24 := Try.underlying24
  go_enter Try.func19, Try.ntmps19
  go_wp2_with (first | ((with_reducible refine gate_dst (N := 13) rfl ?_); (try (refine gate_guard (by rfl) ?_; dsimp only)); refine Kd.R_lit (Kd.int .u8) _ 5 ?hg (N := 13) ?hd (xs := ([(l0.length : Int) % 256] : List Int)) (inner := [.int .u8 ((l0.length : Int) % 256)]) (ok := fun _ => True) (okp := fun _ => True) ?hr ?hp (fun _ hk => hk) trivial (Below.refl _ _) (Nat.le_refl _) (by simp) ?_; (case hd => rfl); (case hg => rfl); (case hr => first | (go_simp; done) | (go_simp; rfl)); (case hp => exact (Reps.one (show Kd.M (Kd.int .u8) _ _ _ ((l0.length : Int) % 256) [.int .u8 ((l0.length : Int) % 256)] from rfl) (Reps.none _ _))); intro v5 w5 ho hb hg_ hnew_; clear hg_ hnew_; have n0_ := Aside0.mk (Kd.R_lower ho (below_size (zb))); have n1_ := Aside0.mk (below_step (zb) hb); clear HB; have HO5 := n0_; have HB := n1_; clear n0_ n1_ hb ho))
  go_loopg [5, 16] l0.length (fun kq v5 v16 w' => ∃ (acc : List Int) (x : Int), v16 = .int .i64 x ∧ Aside0 (0 ≤ x ∧ (kq : Int) + x = l0.length) ∧ Aside0 (list38 (l0.drop x.toNat) acc = some r) ∧ Aside0 (Kd.R (Kd.int .u8) 5 w' w.heap.size (fun _ => True) v5 acc) ∧ Aside0 (Below w.heap.size w w'))
  case atStart => exact ⟨_, 0, rfl, ⟨by simp⟩, H0, ⟨zr HO5⟩, ⟨zb⟩⟩
  case round =>
    clear HB HO5 H0
    obtain ⟨acc, x, rfl, HI, HA, HO5, HB⟩ := hrel
    cases gk with
    | zero =>
      have e4 : x = (l0.length : Int) := by have := HI.out; omega
      have hA := HA.out
      rw [List.drop_eq_nil_of_le (by omega)] at hA
      unfold list38 at hA
      obtain rfl := Option.some.inj hA
      have c2 : decide (x < (l0.length : Int)) = false := decide_eq_false (by omega)
      clear e4 hA HA
      go_wp2
      go_ret
      exact ⟨_, rfl, by (with_reducible repeat (first | apply Kd.R_alloc | apply Kd.R_drewN | apply Kd.R_drew)); exact HO5.out, zb⟩
    | succ k1 =>
      have p1 : 0 ≤ x := HI.out.1
      have p2 : x < (l0.length : Int) := by have := HI.out; omega
      have c2 : decide (x < (l0.length : Int)) = true := decide_eq_true p2
      have hw : wrap64 (x + 1) = x + 1 := by have := HI.out; have := HMX.out; unfold wrap64; omega
      have HW := Aside0.mk hw
      clear hw
      have hd_ : l0.drop x.toNat = (rd_T38 l0 x) :: l0.drop (x.toNat + 1) := by
        rw [List.drop_eq_getElem_cons (by omega)]
        congr 1
        simp only [rd_T38]
        rw [List.getD_eq_getElem?_getD, List.getElem?_eq_getElem (by omega), Option.getD_some]
      have hA := HA.out
      rw [hd_] at hA
      unfold list38 at hA
      clear HA hd_
      obtain ⟨ad, A2, c2_, A3, c3_, A4, c4_, A5, c5_, e0_, hx0, hx1, hx2, hx3, hx4, hx5, hl2, hc2, hl3, hc3, hl4, hc4, hl5, hc5⟩ := at_T38 (Kd.C_below HR0.out HB.out) x p1 p2
      cases e0_
      obtain ⟨e_, he_⟩ : ∃ s_ : S38, s_ = rd_T38 l0 x := ⟨_, rfl⟩
      rw [← he_] at hA hx0 hx1 hx2 hx3 hx4 hx5 hl2 hl3 hl4 hl5 hc2 hc3 hc4 hc5
      have HL2 := Aside0.mk hl2
      have HL3 := Aside0.mk hl3
      have HL4 := Aside0.mk hl4
      have HL5 := Aside0.mk hl5
      have HC2 := Aside0.mk hc2
      have HC3 := Aside0.mk hc3
      have HC4 := Aside0.mk hc4
      have HC5 := Aside0.mk hc5
      clear he_ hl2 hl3 hl4 hl5 hc2 hc3 hc4 hc5
      obtain ⟨⟨q1, q2⟩, ht, hA⟩ := Option.bind_eq_some_iff.mp hA
      have HT := Aside0.mk ht
      replace hA : (if acc.length + q1.length ≤ 140737488355328 then list38 (l0.drop (x.toNat + 1)) (acc ++ q1) else none) = some r := hA
      by_cases hq_ : acc.length + q1.length ≤ 140737488355328
      rotate_left
      · rw [if_neg hq_] at hA
        cases hA
      rw [if_pos hq_] at hA
      have HQ := Aside0.mk hq_
      have HA := Aside0.mk hA
      clear ht hA hq_
      replace p1 := eq_true p1
      replace p2 := eq_true p2
      go_wp2_with (first | (go_at_call 20; (with_reducible refine (class_bytes.calls e_.f0 e_.f1 A2 c2_ e_.f2 A3 c3_ e_.f3 A4 c4_ e_.f4 A5 c5_ e_.f5 q1 q2 _ ?s2 HL2.out ?s3 HL3.out ?s4 HL4.out ?s5 HL5.out HT.out).mono ?_); (case s2 => first | exact HC2.out | exact Kd.C_alloc HC2.out _); (case s3 => first | exact HC3.out | exact Kd.C_alloc HC3.out _); (case s4 => first | exact HC4.out | exact Kd.C_alloc HC4.out _); (case s5 => first | exact HC5.out | exact Kd.C_alloc HC5.out _); rintro e w1 ⟨v8, rfl, ho, hb⟩; have n0_ := Aside0.mk (Kd.R_below (zr HO5) hb); have n2_ := Aside0.mk (Kd.R_lower ho (below_size (zb))); have n1_ := Aside0.mk (below_step (zb) hb); clear HB HO5 hb ho; have HB := n1_; have HO5 := n0_; have HO8 := n2_; clear n0_ n1_ n2_; obtain ⟨Ao8, co8, eo8⟩ := Kd.R_slice HO8.out; subst eo8) | ((with_reducible refine gate_builtin (b := .append) (xs := #[.tmp 26, .tmp 27]) rfl ?_); at_builtin; refine Kd.R_append_rows (Kd.int .u8) (w0 := w) w.heap.size rfl (.tmp 26) (.tmp 27) 24 5 (.int .u8 0) 1 rfl Try.underlying24 info5 rfl (by decide) (by omega) _ acc q1 _ _ _ (fun _ => True) (fun _ => False) rfl rfl ?aO ?aR (fun _ _ h => h) (fun _ h => h.elim) ?aF ?aB ?aS ?aL ?_; (case aR => exact (Kd.R_reads' (zr HO8)).2.2); (case aB => exact (zb)); (case aF => exact (fun _ _ => trivial)); (case aO => exact (zr HO5)); (case aS => exact (below_size (zb))); (case aL => have := HQ.out; omega); intro v48 w48 ho hb hg hat; have n0_ := Aside0.mk ho; have n1_ := Aside0.mk hb; clear HO5 HB HO8; have HO5 := n0_; have HB := n1_; clear n0_ n1_ ho hb hg hat))
      go_roundg k1
      case measure => omega
      case rel => exact ⟨_, x + 1, by rw [HW.out], ⟨by have := HI.out; omega⟩, ⟨by rw [show (x + 1).toNat = x.toNat + 1 from by have := HI.out; omega]; exact HA.out⟩, ⟨zr HO5⟩, ⟨zb⟩⟩
-- NOT PRINTED: function 40 (api_Type_40)
-- NOT PRINTED: function 42 (class_list_uint16)
-- NOT PRINTED: function 20 (class_bytes)
def allMay : List S38 → Option Bool
  | [] => some true
  | x :: r => (class_May.f x.f0 x.f1 x.f2 x.f3 x.f4 x.f5).bind fun t => if t = true then allMay r else some false
def class_Put.f (l0 : List (S38)) : Option (List Int × Int) := (allMay l0).bind fun t => if t = true then (if l0.length > 64 then some ([], 3) else (list38 l0 [(l0.length : Int) % 256]).bind fun b => some (b, 0)) else some ([], 2)
set_option maxHeartbeats 8000000 in
set_option maxRecDepth 100000 in
theorem class_Put.calls (A0 : Option Addr) (c0 : Nat) (l0 : List (S38)) (r1 : List Int) (r2 : Int) (w : World) (hr0 : Kd.C k38 w A0 l0.length l0) (hc0 : l0.length ≤ c0) (h : class_Put.f l0 = some (r1, r2)) :
    Calls Try.prog 7 #[.slice A0 l0.length c0] w fun e w' => ∃ v0_ : Value, e = .returned (.tuple #[v0_, .int .i64 r2]) ∧ Kd.R (Kd.int .u8) 5 w' w.heap.size (fun _ => True) v0_ r1 ∧ Below w.heap.size w w' := by
  have hmax := Kd.C_max hr0
  have HR0 := Aside0.mk hr0
  have HC0 := Aside0.mk hc0
  have HMX := Aside0.mk hmax
  clear hr0 hc0 hmax
  have HB := Aside0.mk (Below.refl w.heap.size w)
  have hu22 := Try.underlying22
  have hu38 := Try.underlying38
  unfold class_Put.f at h
  obtain ⟨t, ht, h⟩ := Option.bind_eq_some_iff.mp h
  have H0 := Aside0.mk ht
  have HF := Aside0.mk h
  clear ht h
  go_enter Try.func7, Try.ntmps7
  go_wp2
  go_loopg [8] l0.length (fun kq v8 w' => ∃ x : Int, v8 = .int .i64 x ∧ Aside0 (0 ≤ x ∧ (kq : Int) + x = l0.length) ∧ Aside0 (allMay (l0.drop x.toNat) = some t) ∧ Aside0 (Below w.heap.size w w'))
  case atStart => exact ⟨0, rfl, ⟨by simp⟩, H0, ⟨zb⟩⟩
  case round =>
    clear HB H0
    obtain ⟨x, rfl, HI, HA, HB⟩ := hrel
    cases gk with
    | zero =>
      have e4 : x = (l0.length : Int) := by have := HI.out; omega
      have hA := HA.out
      rw [List.drop_eq_nil_of_le (by omega)] at hA
      unfold allMay at hA
      obtain rfl := Option.some.inj hA
      have c2 : decide (x < (l0.length : Int)) = false := decide_eq_false (by omega)
      have h := HF.out
      rw [if_pos rfl] at h
      clear e4 hA HA HF
      by_cases c3 : l0.length > 64
      · rw [if_pos c3] at h
        simp only [Option.some.injEq, Prod.mk.injEq] at h
        obtain ⟨rfl, rfl⟩ := h
        have c3b0 : decide (64 < (l0.length : Int)) = true := decide_eq_true (by omega)
        have c3b1 : decide (64 < l0.length) = true := decide_eq_true c3
        clear c3
        go_wp2
        go_ret2
        exact ⟨_, rfl, Kd.R_nil _ _ _ _ _, zb⟩
      · rw [if_neg c3] at h
        obtain ⟨b, ht, h⟩ := Option.bind_eq_some_iff.mp h
        have HL := Aside0.mk ht
        simp only [Option.some.injEq, Prod.mk.injEq] at h
        obtain ⟨rfl, rfl⟩ := h
        have c3b0 : decide (64 < (l0.length : Int)) = false := decide_eq_false (by omega)
        have c3b1 : decide (64 < l0.length) = false := decide_eq_false c3
        clear c3 ht
        go_wp2_with (first | (go_at_call 19; (with_reducible refine (list38.calls _ _ l0 b _ ?s1 HC0.out HL.out).mono ?_); (case s1 => first | exact HR0.out | exact Kd.C_below HR0.out HB.out); rintro e w1 ⟨v8, rfl, ho, hb⟩; have n2_ := Aside0.mk (Kd.R_lower ho (below_size (zb))); have n1_ := Aside0.mk (below_step (zb) hb); clear HB hb ho; have HB := n1_; have HO8 := n2_; clear n1_ n2_))
        go_ret2
        exact ⟨_, rfl, by (with_reducible repeat (first | apply Kd.R_alloc | apply Kd.R_drewN | apply Kd.R_drew)); exact HO8.out, zb⟩
    | succ k1 =>
      have p1 : 0 ≤ x := HI.out.1
      have p2 : x < (l0.length : Int) := by have := HI.out; omega
      have c2 : decide (x < (l0.length : Int)) = true := decide_eq_true p2
      have hw : wrap64 (x + 1) = x + 1 := by have := HI.out; have := HMX.out; unfold wrap64; omega
      have HW := Aside0.mk hw
      clear hw
      have hd_ : l0.drop x.toNat = (rd_T38 l0 x) :: l0.drop (x.toNat + 1) := by
        rw [List.drop_eq_getElem_cons (by omega)]
        congr 1
        simp only [rd_T38]
        rw [List.getD_eq_getElem?_getD, List.getElem?_eq_getElem (by omega), Option.getD_some]
      have hA := HA.out
      rw [hd_] at hA
      unfold allMay at hA
      clear HA hd_
      obtain ⟨ad, A2, c2_, A3, c3_, A4, c4_, A5, c5_, e0_, hx0, hx1, hx2, hx3, hx4, hx5, hl2, hc2, hl3, hc3, hl4, hc4, hl5, hc5⟩ := at_T38 (Kd.C_below HR0.out HB.out) x p1 p2
      cases e0_
      obtain ⟨e_, he_⟩ : ∃ s_ : S38, s_ = rd_T38 l0 x := ⟨_, rfl⟩
      rw [← he_] at hA hx0 hx1 hx2 hx3 hx4 hx5 hl2 hc2 hl3 hc3 hl4 hc4 hl5 hc5
      have HL2 := Aside0.mk hl2
      have HC2 := Aside0.mk hc2
      have HL3 := Aside0.mk hl3
      have HC3 := Aside0.mk hc3
      have HL4 := Aside0.mk hl4
      have HC4 := Aside0.mk hc4
      have HL5 := Aside0.mk hl5
      have HC5 := Aside0.mk hc5
      clear he_ hl2 hc2 hl3 hc3 hl4 hc4 hl5 hc5
      obtain ⟨b, ht, hA⟩ := Option.bind_eq_some_iff.mp hA
      have HT := Aside0.mk ht
      have HA := Aside0.mk hA
      clear ht hA
      replace p1 := eq_true p1
      replace p2 := eq_true p2
      cases b with
      | false =>
        have hA := HA.out
        rw [if_neg (by decide)] at hA
        obtain rfl := Option.some.inj hA
        have h := HF.out
        rw [if_neg (by decide)] at h
        simp only [Option.some.injEq, Prod.mk.injEq] at h
        obtain ⟨rfl, rfl⟩ := h
        clear hA HA HF
        go_wp2_with (first | (go_at_call 15; (with_reducible refine (class_May.calls e_.f0 e_.f1 A2 c2_ e_.f2 A3 c3_ e_.f3 A4 c4_ e_.f4 A5 c5_ e_.f5 false _ ?s2 HL2.out ?s3 HL3.out ?s4 HL4.out ?s5 HL5.out HT.out).mono ?_); (case s2 => first | exact HC2.out | exact Kd.C_alloc HC2.out _); (case s3 => first | exact HC3.out | exact Kd.C_alloc HC3.out _); (case s4 => first | exact HC4.out | exact Kd.C_alloc HC4.out _); (case s5 => first | exact HC5.out | exact Kd.C_alloc HC5.out _); rintro e w1 ⟨rfl, hb⟩; have n1_ := Aside0.mk (below_step (zb) hb); clear HB hb; have HB := n1_; clear n1_))
        go_ret2
        exact ⟨_, rfl, Kd.R_nil _ _ _ _ _, zb⟩
      | true =>
        have hA := HA.out
        rw [if_pos rfl] at hA
        have HA2 := Aside0.mk hA
        clear hA HA
        go_wp2_with (first | (go_at_call 15; (with_reducible refine (class_May.calls e_.f0 e_.f1 A2 c2_ e_.f2 A3 c3_ e_.f3 A4 c4_ e_.f4 A5 c5_ e_.f5 true _ ?s2 HL2.out ?s3 HL3.out ?s4 HL4.out ?s5 HL5.out HT.out).mono ?_); (case s2 => first | exact HC2.out | exact Kd.C_alloc HC2.out _); (case s3 => first | exact HC3.out | exact Kd.C_alloc HC3.out _); (case s4 => first | exact HC4.out | exact Kd.C_alloc HC4.out _); (case s5 => first | exact HC5.out | exact Kd.C_alloc HC5.out _); rintro e w1 ⟨rfl, hb⟩; have n1_ := Aside0.mk (below_step (zb) hb); clear HB hb; have HB := n1_; clear n1_))
        go_roundg k1
        case measure => omega
        case rel => exact ⟨x + 1, by rw [HW.out], ⟨by have := HI.out; omega⟩, ⟨by rw [show (x + 1).toNat = x.toNat + 1 from by have := HI.out; omega]; exact HA2.out⟩, ⟨zb⟩⟩
def bytes_Clone.f (l0 : List Int) : Option (List Int) := (some (([] : List Int) : List Int)).bind fun y174 => (if y174.length + l0.length < 140737488355328 then (some (y174 ++ l0)) else (none))
set_option maxHeartbeats 8000000 in
set_option maxRecDepth 100000 in
theorem bytes_Clone.calls (A0 : Option Addr) (c0 : Nat) (l0 : List Int) (r : List Int) (w : World) (hr0 : Kd.C (Kd.int .u8) w A0 l0.length l0) (hc0 : l0.length ≤ c0) (h : bytes_Clone.f l0 = some r) :
    Calls Try.prog 77 #[.slice A0 l0.length c0] w fun e w' => ∃ v0_ : Value, e = .returned (v0_) ∧ Kr.R (Kd.int .u8) 5 w' w.heap.size (fun _ => True) v0_ r ∧ Below w.heap.size w w' := by
  rcases A0 with _ | ad0
  · obtain rfl := Go.Proofs.YtjbpdmkalegacaaW.Mine.C_none hr0
    have hq : ∀ (W : World) (n : Nat), (binOp .eql 24 (.slice none n c0) (.slice none 0 0)).run Try.prog W = .ok (.bool true) W := fun W n => Lib.run_eql_slice_nil W 24 5 none n c0 0 0 Try.underlying24
    simp [bytes_Clone.f] at h
    subst h
    go_enter Try.func77, Try.ntmps77
    go_wp2
    go_ret
    exact ⟨_, rfl, Kr.R_nil _ _ _ _ _, by repeat (first | (with_reducible first | exact Below.refl _ _ | apply below_alloc | apply pw_below_drewN | apply below_drew1) | exact Below.refl _ _)⟩
  · have hq : ∀ W : World, (binOp .eql 24 (.slice (some ad0) l0.length c0) (.slice none 0 0)).run Try.prog W = .ok (.bool false) W := fun W => Lib.run_eql_slice_nil W 24 5 (some ad0) _ c0 0 0 Try.underlying24
    have HR0 := Aside0.mk hr0
    have HC0 := Aside0.mk hc0
    clear hr0 hc0
    have HB := Aside0.mk (Below.refl w.heap.size w)
    have H : ((some (([] : List Int) : List Int)).bind fun y174 => (if y174.length + l0.length < 140737488355328 then (some (y174 ++ l0)) else (none))) = some r := h
    clear h
    obtain ⟨y174, hy174⟩ : ∃ y_ : List Int, y_ = (([] : List Int)) := ⟨_, rfl⟩
    replace H : (if y174.length + l0.length < 140737488355328 then (some (y174 ++ l0)) else (none)) = some r := by first | (rw [hy174]; with_reducible exact H) | (have H2_ := (Option.bind_some _ _).symm.trans H; rw [hy174]; with_reducible exact H2_) | (have H2_ := (Option.bind_some _ _).symm.trans H; with_reducible exact H2_) | with_reducible exact H | (rw [hy174]; exact H) | exact H
    have Ny174 := Aside0.mk hy174
    clear hy174
    by_cases c2 : y174.length + l0.length < 140737488355328
    · rw [if_pos c2] at H
      have LMc2 := Aside0.mk c2
      clear c2
      obtain ⟨y177, hy177⟩ : ∃ y_ : List Int, y_ = (y174 ++ l0) := ⟨_, rfl⟩
      replace H : (some y177) = some r := by first | (rw [hy177]; with_reducible exact H) | (have H2_ := (Option.bind_some _ _).symm.trans H; rw [hy177]; with_reducible exact H2_) | (have H2_ := (Option.bind_some _ _).symm.trans H; with_reducible exact H2_) | with_reducible exact H | (rw [hy177]; exact H) | exact H
      have Ny177 := Aside0.mk hy177
      clear hy177
      obtain rfl := Option.some.inj H
      go_enter Try.func77, Try.ntmps77
      go_wp2_with (first | ((with_reducible refine gate_dst (N := 5) rfl ?_); refine Kr.R_lit (Kd.int .u8) _ 5 ?hg (N := 5) ?hd (xs := ([] : List Int)) (inner := []) (ok := fun _ => True) (okp := fun _ => True) ?hr ?hp (fun _ hk => hk) trivial (Below.refl _ _) (Nat.le_refl _) (by simp) ?_; (case hd => rfl); (case hg => rfl); (case hr => first | (go_simp; done) | (go_simp; rfl)); (case hp => exact (Reps.none _ _)); intro v175 w3 ho4 hb hg_ hnew_; clear hg_ hnew_; (first | rw [← Ny174.out] at ho4 | (simp only [Int.reduceToNat] at ho4; rw [← Ny174.out] at ho4)); have n0_ := Aside0.mk (Kr.R_lower ho4 (below_size (zb))); have n1_ := Aside0.mk (below_step (zb) hb); clear HB; have HO176 := n0_; have HB := n1_; clear n0_ n1_; clear hb ho4) | ((with_reducible refine gate_builtin (b := .append) (xs := #[.tmp 5, .tmp 6]) rfl ?_); at_builtin; refine Kr.R_append_rows (Kd.int .u8) (w0 := w) w.heap.size rfl (.tmp 5) (.tmp 6) 24 5 (.int .u8 0) 1 rfl Try.underlying24 info5 rfl (by decide) (by omega) v175 y174 l0 _ _ _ (fun _ => True) (fun _ => False) rfl rfl ?aO ?aR (fun _ _ h => h) (fun _ h => h.elim) ?aF ?aB ?aS ?aL ?_; (case aR => repeat (first | exact (Kd.C_below HR0.out HB.out) | (with_reducible refine Kd.C_alloc ?_ _) | (with_reducible refine Kd.C_drewN ?_ _) | (with_reducible refine Kd.C_drew ?_))); (case aB => exact (zb)); (case aF => exact (fun _ _ => trivial)); (case aO => exact (by (with_reducible repeat (first | apply Kr.R_alloc | apply Kr.R_drewN | apply Kr.R_drew)); exact HO176.out)); (case aS => exact (below_size (zb))); (case aL => have := LMc2.out; omega); intro v178 w5 ho hb hg hat; rw [← Ny177.out] at ho; have n0_ := Aside0.mk (hb); have n1_ := Aside0.mk (ho); clear HB; clear HO176; have HB := n0_; have HO179 := n1_; clear n0_ n1_; clear ho hb hg hat))
      go_ret
      exact ⟨_, ze, by (with_reducible repeat (first | apply Kr.R_alloc | apply Kr.R_drewN | apply Kr.R_drew)); exact HO179.out, zb⟩
    · rw [if_neg c2] at H
      exact absurd H (by simp)
def ends_Part.j0 : Nat → List Int → Int → Int → Bool → Option (List Int × Int)
  | 0, _, _, _, _ => none
  | k + 1, x0, x1, x2, x8 => if x8 = true then (some (([] : List Int), 2)) else (if (wrap64 ((x0.length : Int) - x1)) < x2 then (some (([] : List Int), 4)) else (if 0 ≤ x1 then (if x1 ≤ (wrap64 (x1 + x2)) then (if (wrap64 (x1 + x2)) ≤ (x0.length : Int) then ((bytes_Clone.f ((x0.take ((wrap64 (x1 + x2)) : Int).toNat).drop (x1 : Int).toNat)).bind fun t181 => (some (t181, 0))) else (none)) else (none)) else (none)))
def ends_Part.f (k : Nat) (l0 : List Int) (a1 : Int) (a2 : Int) : Option (List Int × Int) := if a1 < 0 then (ends_Part.j0 k l0 a1 a2 true) else (if a1 > (l0.length : Int) then (ends_Part.j0 k l0 a1 a2 true) else (ends_Part.j0 k l0 a1 a2 (decide (a2 < 0))))
set_option maxHeartbeats 8000000 in
set_option maxRecDepth 100000 in
theorem ends_Part.calls (k : Nat) (A0 : Option Addr) (c0 : Nat) (l0 : List Int) (a1 : Int) (a2 : Int) (r1 : List Int) (r2 : Int) (w : World) (hr0 : Kd.C (Kd.int .u8) w A0 l0.length l0) (hc0 : l0.length ≤ c0) (h : ends_Part.f k l0 a1 a2 = some (r1, r2)) :
    Calls Try.prog 76 #[.slice A0 l0.length c0, .int .i64 a1, .int .i64 a2] w fun e w' => ∃ v0_ : Value, e = .returned (.tuple #[v0_, .int .i64 r2]) ∧ Kr.R (Kd.int .u8) 5 w' w.heap.size (fun _ => True) v0_ r1 ∧ Below w.heap.size w w' := by
  have HR0 := Aside0.mk hr0
  have HC0 := Aside0.mk hc0
  clear hr0 hc0
  have HB := Aside0.mk (Below.refl w.heap.size w)
  have H : (if a1 < 0 then (ends_Part.j0 k l0 a1 a2 true) else (if a1 > (l0.length : Int) then (ends_Part.j0 k l0 a1 a2 true) else (ends_Part.j0 k l0 a1 a2 (decide (a2 < 0))))) = some (r1, r2) := h
  clear h
  have HC4 := Aside0.mk H
  clear H
  go_enter Try.func76, Try.ntmps76
  go_upto_region 1 with (fail)
  go_cut [8] (fun v8 wc => ∃ (kq : Nat) (x8_3 : Bool), v8 = .bool x8_3 ∧ Aside0 (ends_Part.j0 kq l0 a1 a2 x8_3 = some (r1, r2)) ∧ Aside0 (kq ≤ k) ∧ Aside0 (Below w.heap.size w wc))
  case first =>
    have H := HC4.out
    clear HC4
    by_cases c5 : a1 < 0
    · rw [if_pos c5] at H
      have c5b0 : decide (a1 < 0) = true := decide_eq_true c5
      clear c5
      (first | rw [c5b0] | (simp only [i64_w, i32_w]; rw [c5b0]) | skip)
      have H' := Aside0.mk H
      clear H
      go_wp2
      go_meet
      case rel => exact ⟨_, (true), zs, H', ⟨by first | omega | exact Nat.le_refl _⟩, ⟨zb⟩⟩
    · rw [if_neg c5] at H
      have c5b0 : decide (a1 < 0) = false := decide_eq_false c5
      clear c5
      (first | rw [c5b0] | (simp only [i64_w, i32_w]; rw [c5b0]) | skip)
      by_cases c6 : a1 > (l0.length : Int)
      · rw [if_pos c6] at H
        have c6b0 : decide ((l0.length : Int) < a1) = true := decide_eq_true c6
        clear c6
        have H' := Aside0.mk H
        clear H
        go_wp2
        go_meet
        case rel => exact ⟨_, (true), zs, H', ⟨by first | omega | exact Nat.le_refl _⟩, ⟨zb⟩⟩
      · rw [if_neg c6] at H
        have c6b0 : decide ((l0.length : Int) < a1) = false := decide_eq_false c6
        clear c6
        have H' := Aside0.mk H
        clear H
        go_wp2
        go_meet
        case rel => exact ⟨_, (decide (a2 < 0)), zs, H', ⟨by first | omega | exact Nat.le_refl _⟩, ⟨zb⟩⟩
  case rest =>
    clear HC4
    try clear p2
    try clear c5
    try clear c5b0
    try clear c6
    try clear c6b0
    obtain ⟨kq, x8_3, rfl, HA, HJ3, HB⟩ := hcut
    cases kq with
    | zero => exact absurd HA.out (by simp [ends_Part.j0])
    | succ kj3 =>
      have H := HA.out
      clear HA
      simp only [ends_Part.j0] at H
      by_cases c7 : x8_3 = true
      · subst c7
        have H1 : (some (([] : List Int), 2)) = some (r1, r2) := by rw [if_pos rfl] at H; exact H
        clear H
        have H := H1
        clear H1
        simp only [Option.some.injEq, Prod.mk.injEq] at H
        obtain ⟨rfl, rfl⟩ := H
        go_wp2
        go_ret2
        exact ⟨_, ze, by first | exact Kr.R_nil _ _ _ _ _ | exact Kd.N_nil _ _ _ _ _ | exact Kd.V_nil _ _ _ _ _ | exact Kd.Q_nil _ _ _ _ _ | exact Kd.S_nil _ _ _ _ _, zb⟩
      · replace c7 := Bool.eq_false_iff.mpr c7
        subst c7
        have H1 : (if (wrap64 ((l0.length : Int) - a1)) < a2 then (some (([] : List Int), 4)) else (if 0 ≤ a1 then (if a1 ≤ (wrap64 (a1 + a2)) then (if (wrap64 (a1 + a2)) ≤ (l0.length : Int) then ((bytes_Clone.f ((l0.take ((wrap64 (a1 + a2)) : Int).toNat).drop (a1 : Int).toNat)).bind fun t181 => (some (t181, 0))) else (none)) else (none)) else (none))) = some (r1, r2) := by rw [if_neg (show ¬ (false = true) by decide)] at H; exact H
        clear H
        have H := H1
        clear H1
        by_cases c8 : (wrap64 ((l0.length : Int) - a1)) < a2
        · rw [if_pos c8] at H
          have c8b0 : decide ((wrap64 ((l0.length : Int) - a1)) < a2) = true := decide_eq_true c8
          clear c8
          simp only [Option.some.injEq, Prod.mk.injEq] at H
          obtain ⟨rfl, rfl⟩ := H
          go_wp2
          go_ret2
          exact ⟨_, ze, by first | exact Kr.R_nil _ _ _ _ _ | exact Kd.N_nil _ _ _ _ _ | exact Kd.V_nil _ _ _ _ _ | exact Kd.Q_nil _ _ _ _ _ | exact Kd.S_nil _ _ _ _ _, zb⟩
        · rw [if_neg c8] at H
          have c8b0 : decide ((wrap64 ((l0.length : Int) - a1)) < a2) = false := decide_eq_false c8
          clear c8
          by_cases c9 : 0 ≤ a1
          · rw [if_pos c9] at H
            have c9b0 := eq_true c9
            have c9b1 : decide (0 ≤ a1) = true := decide_eq_true c9
            clear c9
            by_cases c10 : a1 ≤ (wrap64 (a1 + a2))
            · rw [if_pos c10] at H
              have c10b0 := eq_true c10
              have c10b1 : decide (a1 ≤ (wrap64 (a1 + a2))) = true := decide_eq_true c10
              by_cases c11 : (wrap64 (a1 + a2)) ≤ (l0.length : Int)
              · rw [if_pos c11] at H
                have c11b0 := eq_true c11
                have c11b1 : decide ((wrap64 (a1 + a2)) ≤ (l0.length : Int)) = true := decide_eq_true c11
                replace H := Option.bind_eq_some_iff.mp H
                obtain ⟨t181, A120, H⟩ := H
                replace H : (some (t181, 0)) = some (r1, r2) := H
                have A12 := Aside0.mk A120
                clear A120
                simp only [Option.some.injEq, Prod.mk.injEq] at H
                obtain ⟨rfl, rfl⟩ := H
                obtain ⟨i013, hi013, _, hsz13, _⟩ := info_parts info5
                obtain ⟨A13, hcut13, hA13, hC13⟩ := Go.Proofs.YtjbpdmkalegacaaW.Mine.mid3_of (P := Try.prog) (Value.int .u8) 0 24 5 .i64 .i64 .i64 Try.underlying24 hi013 hsz13 A0 c0 l0 a1 (wrap64 (a1 + a2)) (of_decide_eq_true (by first | (with_reducible assumption) | assumption)) (by first | omega | exact of_decide_eq_true (by first | (with_reducible assumption) | assumption)) (of_decide_eq_true (by first | (with_reducible assumption) | assumption)) HC0.out
                have HR180 := Aside0.mk (Kd.C_of_reads (h1 := fun _ => rfl) (hA13 _ (Kd.reads_of_C HR0.out)))
                have HC180 := Aside0.mk hC13
                clear hA13 hC13 hi013 hsz13
                go_wp2_with (first | ((with_reducible refine gate_callee (f := 77) rfl ?_); refine goesL_ (some 37) rfl rfl Try.func77 (by kernel_rfl) rfl #[.slice A13 ((l0.take ((wrap64 (a1 + a2)) : Int).toNat).drop (a1 : Int).toNat).length ((wrap64 (a1 + a2)).toNat - a1.toNat)] rfl (by (try simp only [List.map_toArray, List.map_cons, List.map_nil]); first | done | (rw [show ((l0.take ((wrap64 (a1 + a2)) : Int).toNat).drop (a1 : Int).toNat).length = ((wrap64 (a1 + a2)).toNat - a1.toNat) from (by rw [List.length_drop, List.length_take]; have h_ : ((wrap64 (a1 + a2)) : Int) ≤ (l0.length : Int) := of_decide_eq_true (by first | (with_reducible assumption) | assumption); omega)] <;> rfl) | rfl | (simp only [List.length_drop, List.length_take]; rfl)) ?_; (with_reducible refine (bytes_Clone.calls _ _ ((l0.take ((wrap64 (a1 + a2)) : Int).toNat).drop (a1 : Int).toNat) t181 _ ?side1 ?side2 A12.out).mono ?_); (case side1 => exact zc (Kd.C_below HR180.out HB.out)); (case side2 => exact HC180.out); rintro e w14 ⟨v182, rfl, ho0, hb⟩; refine ⟨_, rfl, ?_⟩; have n0_ := Aside0.mk (Kr.R_lower ho0 (below_size (zb))); have n1_ := Aside0.mk (below_step (zb) hb); clear HB; have HO183 := n0_; have HB := n1_; clear n0_ n1_; (try clear hb); (try clear hb2); (try clear hk); (try clear hi); (try clear ho0)))
                go_ret2
                exact ⟨_, ze, by (with_reducible repeat (first | apply Kr.R_alloc | apply Kr.R_drewN | apply Kr.R_drew)); exact HO183.out, zb⟩
              · rw [if_neg c11] at H
                exact absurd H (by simp)
            · rw [if_neg c10] at H
              exact absurd H (by simp)
          · rw [if_neg c9] at H
            exact absurd H (by simp)
end Go.Proofs.Ytjbpdmkalegacaa.PClassFresh
