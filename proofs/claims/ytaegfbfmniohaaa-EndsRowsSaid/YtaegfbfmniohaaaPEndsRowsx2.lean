-- laid by fake.py, a program of this session's, over the kit's print
import Derived.Test.YtaegfbfmniohaaaPEndsRowsx0
import Derived.Test.YtaegfbfmniohaaaPEndsRowsx1
namespace Go.Proofs.Ytaegfbfmniohaaa.PEndsRows
open Go.RowKit Go.Proofs.YtaegfbfmniohaaaW.PrintWords Go.Proofs.YtaegfbfmniohaaaW.PrintLast Go.Proofs.YtaegfbfmniohaaaW.PrintMore Go.Proofs.YtaegfbfmniohaaaW.Mine
attribute [local go_sem] max2_int min2_int max_two min_two max_three min_three max_four min_four   -- for this text's walks alone
set_option linter.unusedVariables false
set_option linter.unusedSimpArgs false

/-! ### ends_PutRow: function 19 -/
def ends_PutRow.j0 : Nat → List Int → Int → Bool → Option (List Int × Int)
  | 0, _, _, _ => none
  | k + 1, x0, x1, x8 => if x8 = true then (some (([] : List Int), 2)) else (if 0 ≤ (IntKind.u64.wrap (8 * (IntKind.u64.wrap (x1)))) then (if (x0.length : Int) ≥ (shl .i64 1 (IntKind.u64.wrap (8 * (IntKind.u64.wrap (x1))))) then (some (([] : List Int), 3)) else ((ends_Put.f k (((x0.length : Int)) % 4294967296) x1).bind fun bt124 => (if bt124.1.length + x0.length < 140737488355328 then (some ((bt124.1 ++ x0), 0)) else (none)))) else (none))
def ends_PutRow.f (k : Nat) (l0 : List Int) (a1 : Int) : Option (List Int × Int) := if a1 = 1 then (ends_PutRow.j0 k l0 a1 false) else (ends_PutRow.j0 k l0 a1 (a1 != 2))
theorem ends_PutRow.mono_l : ∀ k, (∀ y0 y1 y2, LeO (ends_PutRow.j0 k y0 y1 y2) (ends_PutRow.j0 (k + 1) y0 y1 y2))
  | 0 => fun _ _ _ r h => by simp [ends_PutRow.j0] at h
  | k + 1 => by
    have ih0 := ends_PutRow.mono_l k
    · intro y0 y1 y2
      unfold ends_PutRow.j0
      repeat' first
      | (with_reducible exact ih0 _ _ _)
      | (with_reducible exact ends_Put.mono _ _ _)
      | (with_reducible exact LeO.refl _)
      | (with_reducible exact LeO.none _)
      | (with_reducible refine LeO.ite ?_ ?_)
      | (with_reducible refine LeO.bind ?_ (fun _ => ?_))
      | exact ih0 _ _ _
      | exact ends_Put.mono _ _ _
      | exact LeO.none _
      | refine LeO.ite ?_ ?_
      | refine LeO.bind ?_ (fun _ => ?_)
theorem ends_PutRow.mono : ∀ a0 a1 k, LeO (ends_PutRow.f k a0 a1) (ends_PutRow.f (k + 1) a0 a1) := by
  intro a0 a1 k
  have ih0 := ends_PutRow.mono_l k
  unfold ends_PutRow.f
  repeat' first
      | (with_reducible exact ih0 _ _ _)
      | (with_reducible exact ends_Put.mono _ _ _)
      | (with_reducible exact LeO.refl _)
      | (with_reducible exact LeO.none _)
      | (with_reducible refine LeO.ite ?_ ?_)
      | (with_reducible refine LeO.bind ?_ (fun _ => ?_))
      | exact ih0 _ _ _
      | exact ends_Put.mono _ _ _
      | exact LeO.none _
      | refine LeO.ite ?_ ?_
      | refine LeO.bind ?_ (fun _ => ?_)
set_option maxHeartbeats 8000000 in
set_option maxRecDepth 100000 in
theorem ends_PutRow.calls (k : Nat) (A0 : Option Addr) (c0 : Nat) (l0 : List Int) (a1 : Int) (r1 : List Int) (r2 : Int) (w : World) (hr0 : Kd.C (Kd.int .u8) w A0 l0.length l0) (hc0 : l0.length ≤ c0) (h : ends_PutRow.f k l0 a1 = some (r1, r2)) :
    Calls Try.prog 19 #[.slice A0 l0.length c0, .int .i64 a1] w fun e w' => ∃ v0_ : Value, e = .returned (.tuple #[v0_, .int .i64 r2]) ∧ Kd.R (Kd.int .u8) 5 w' w.heap.size (fun _ => True) v0_ r1 ∧ Below w.heap.size w w' := by
  have HR0 := Aside0.mk hr0
  have HC0 := Aside0.mk hc0
  clear hr0 hc0
  have HB := Aside0.mk (Below.refl w.heap.size w)
  have H : (if a1 = 1 then (ends_PutRow.j0 k l0 a1 false) else (ends_PutRow.j0 k l0 a1 (a1 != 2))) = some (r1, r2) := h
  clear h
  have HC3 := Aside0.mk H
  clear H
  go_enter Try.func19, Try.ntmps19
  go_upto_region 1 with (fail)
  go_cut [8] (fun v8 wc => ∃ (kq : Nat) (x8_2 : Bool), v8 = .bool x8_2 ∧ Aside0 (ends_PutRow.j0 kq l0 a1 x8_2 = some (r1, r2)) ∧ Aside0 (kq ≤ k) ∧ Aside0 (Below w.heap.size w wc))
  case first =>
    have H := HC3.out
    clear HC3
    by_cases c4 : a1 = 1
    · rw [if_pos c4] at H
      have c4b0 : (a1 == 1) = true := beq_iff_eq.mpr c4
      have c4b1 : (a1 != 1) = false := bne_eq_false_iff_eq.mpr c4
      clear c4
      (first | rw [c4b0] | (simp only [i64_w, i32_w]; rw [c4b0]) | skip)
      have H' := Aside0.mk H
      clear H
      go_wp2
      go_meet
      case rel => exact ⟨_, (false), (by first | rfl | (simp; done) | (simp [*]; done)), H', ⟨by first | omega | exact Nat.le_refl _⟩, ⟨by repeat (first | (with_reducible first | exact HB.out | apply below_alloc | apply pw_below_drewN | apply below_drew1) | exact HB.out)⟩⟩
    · rw [if_neg c4] at H
      have c4b0 : (a1 == 1) = false := beq_eq_false_iff_ne.mpr c4
      have c4b1 : (a1 != 1) = true := bne_iff_ne.mpr c4
      (first | rw [c4b0] | (simp only [i64_w, i32_w]; rw [c4b0]) | skip)
      have H' := Aside0.mk H
      clear H
      go_wp2
      go_meet
      case rel => exact ⟨_, ((a1 != 2)), (by first | rfl | (simp; done) | (simp [*]; done)), H', ⟨by first | omega | exact Nat.le_refl _⟩, ⟨by repeat (first | (with_reducible first | exact HB.out | apply below_alloc | apply pw_below_drewN | apply below_drew1) | exact HB.out)⟩⟩
  case rest =>
    clear HC3
    try clear c1
    try clear p2
    try clear c4
    try clear c4b0
    try clear c4b1
    obtain ⟨kq, x8_2, rfl, HA, HJ2, HB⟩ := hcut
    cases kq with
    | zero => exact absurd HA.out (by simp [ends_PutRow.j0])
    | succ kj2 =>
      have H := HA.out
      clear HA
      simp only [ends_PutRow.j0] at H
      by_cases c5 : x8_2 = true
      · subst c5
        have H1 : (some (([] : List Int), 2)) = some (r1, r2) := by rw [if_pos rfl] at H; exact H
        clear H
        have H := H1
        clear H1
        simp only [Option.some.injEq, Prod.mk.injEq] at H
        obtain ⟨rfl, rfl⟩ := H
        go_wp2
        go_ret2
        exact ⟨_, by first | rfl | (simp [errW_none, errW_some] <;> rfl) | (simp [*, errW_none, errW_some] <;> rfl), by first | exact Kd.R_nil _ _ _ _ _ | exact Kd.N_nil _ _ _ _ _ | exact Kd.V_nil _ _ _ _ _ | exact Kd.Q_nil _ _ _ _ _ | exact Kd.S_nil _ _ _ _ _, by repeat (first | (with_reducible first | exact HB.out | apply below_alloc | apply pw_below_drewN | apply below_drew1) | exact HB.out)⟩
      · replace c5 := Bool.eq_false_iff.mpr c5
        subst c5
        have H1 : (if 0 ≤ (IntKind.u64.wrap (8 * (IntKind.u64.wrap (a1)))) then (if (l0.length : Int) ≥ (shl .i64 1 (IntKind.u64.wrap (8 * (IntKind.u64.wrap (a1))))) then (some (([] : List Int), 3)) else ((ends_Put.f kj2 (((l0.length : Int)) % 4294967296) a1).bind fun bt124 => (if bt124.1.length + l0.length < 140737488355328 then (some ((bt124.1 ++ l0), 0)) else (none)))) else (none)) = some (r1, r2) := by rw [if_neg (show ¬ (false = true) by decide)] at H; exact H
        clear H
        have H := H1
        clear H1
        obtain ⟨ji6, hji6⟩ : ∃ j_ : Int, (IntKind.u64.wrap (8 * (IntKind.u64.wrap (a1)))) = j_ := ⟨_, rfl⟩
        replace H : (if 0 ≤ (ji6) then (if (l0.length : Int) ≥ (shl .i64 1 (ji6)) then (some (([] : List Int), 3)) else ((ends_Put.f kj2 (((l0.length : Int)) % 4294967296) a1).bind fun bt124 => (if bt124.1.length + l0.length < 140737488355328 then (some ((bt124.1 ++ l0), 0)) else (none)))) else (none)) = some (r1, r2) := by first | (rw [hji6] at H; exact H) | (simp only [hji6] at H ⊢; exact H)
        by_cases c7 : 0 ≤ (ji6)
        · rw [if_pos c7] at H
          have c7b0 := eq_true c7
          have c7b1 : decide (0 ≤ (ji6)) = true := decide_eq_true c7
          clear c7
          obtain ⟨ji8, hji8⟩ : ∃ j_ : Int, (shl .i64 1 (ji6)) = j_ := ⟨_, rfl⟩
          replace H : (if (l0.length : Int) ≥ (ji8) then (some (([] : List Int), 3)) else ((ends_Put.f kj2 (((l0.length : Int)) % 4294967296) a1).bind fun bt124 => (if bt124.1.length + l0.length < 140737488355328 then (some ((bt124.1 ++ l0), 0)) else (none)))) = some (r1, r2) := by first | (rw [hji8] at H; exact H) | (simp only [hji8] at H ⊢; exact H)
          have hji8_ : (IntKind.i64.wrap (1 * 2 ^ min (ji6).toNat 64)) = ji8 := hji8
          have hji8z : (ji6) ≤ 64 → (IntKind.i64.wrap (1 * 2 ^ (ji6).toNat)) = ji8 := shl_small hji8
          have hji8u : (IntKind.i64.wrap (2 ^ min (ji6).toNat 64)) = ji8 := by have h_ := hji8_; rw [Int.one_mul] at h_; exact h_
          have hji8v : (ji6) ≤ 64 → (IntKind.i64.wrap (2 ^ (ji6).toNat)) = ji8 := fun hle_ => by have h_ := hji8z hle_; rw [Int.one_mul] at h_; exact h_
          have hji8y : (wrap64 (1 * 2 ^ min (ji6).toNat 64)) = ji8 := (i64_w _).symm.trans hji8_
          have hji8x : (ji6) ≤ 64 → (wrap64 (1 * 2 ^ (ji6).toNat)) = ji8 := fun h_ => (i64_w _).symm.trans (hji8z h_)
          by_cases c9 : (l0.length : Int) ≥ (ji8)
          · rw [if_pos c9] at H
            have c9b0 : decide ((ji8) ≤ (l0.length : Int)) = true := decide_eq_true c9
            clear c9
            simp only [Option.some.injEq, Prod.mk.injEq] at H
            obtain ⟨rfl, rfl⟩ := H
            go_wp2
            go_ret2
            exact ⟨_, by first | rfl | (simp [errW_none, errW_some] <;> rfl) | (simp only [← hji6, ← hji8]; first | rfl | (simp [errW_none, errW_some] <;> rfl)) | (simp [*, errW_none, errW_some] <;> rfl), by first | exact Kd.R_nil _ _ _ _ _ | exact Kd.N_nil _ _ _ _ _ | exact Kd.V_nil _ _ _ _ _ | exact Kd.Q_nil _ _ _ _ _ | exact Kd.S_nil _ _ _ _ _, by repeat (first | (with_reducible first | exact HB.out | apply below_alloc | apply pw_below_drewN | apply below_drew1) | exact HB.out)⟩
          · rw [if_neg c9] at H
            have c9b0 : decide ((ji8) ≤ (l0.length : Int)) = false := decide_eq_false c9
            clear c9
            replace H := Option.bind_eq_some_iff.mp H
            obtain ⟨⟨t124, t125⟩, A100, H⟩ := H
            replace H : (if t124.length + l0.length < 140737488355328 then (some ((t124 ++ l0), 0)) else (none)) = some (r1, r2) := H
            have A10 := Aside0.mk A100
            clear A100
            by_cases c11 : t124.length + l0.length < 140737488355328
            · rw [if_pos c11] at H
              have LMc11 := Aside0.mk c11
              clear c11
              obtain ⟨y128, hy128⟩ : ∃ y_ : List Int, y_ = (t124 ++ l0) := ⟨_, rfl⟩
              replace H : (some (y128, 0)) = some (r1, r2) := by first | (rw [hy128]; with_reducible exact H) | (have H2_ := (Option.bind_some _ _).symm.trans H; rw [hy128]; with_reducible exact H2_) | (have H2_ := (Option.bind_some _ _).symm.trans H; with_reducible exact H2_) | with_reducible exact H | (rw [hy128]; exact H) | exact H
              have Ny128 := Aside0.mk hy128
              clear hy128
              simp only [Option.some.injEq, Prod.mk.injEq] at H
              obtain ⟨rfl, rfl⟩ := H
              go_wp2_with (first | ((with_reducible refine gate_callee (f := 9) rfl ?_); refine goesL_ (some 28) rfl rfl Try.func9 (by kernel_rfl) rfl #[.int .u32 (((l0.length : Int)) % 4294967296), .int .i64 a1] rfl (by (try simp only [List.map_toArray, List.map_cons, List.map_nil]); first | done | rfl | (simp only [List.length_drop, List.length_take]; rfl)) ?_; (with_reducible refine (ends_Put.calls kj2 (((l0.length : Int)) % 4294967296) a1 t124 t125 _ A10.out).mono ?_); rintro e w12 ⟨v126, rfl, ho0, hb⟩; refine ⟨_, rfl, ?_⟩; have n0_ := Aside0.mk (Kd.R_lower ho0 (below_size (by repeat (first | (with_reducible first | exact HB.out | apply below_alloc | apply pw_below_drewN | apply below_drew1) | exact HB.out)))); have n1_ := Aside0.mk (below_step (by repeat (first | (with_reducible first | exact HB.out | apply below_alloc | apply pw_below_drewN | apply below_drew1) | exact HB.out)) hb); clear HB; have HO127 := n0_; have HB := n1_; clear n0_ n1_; (try clear hb); (try clear hb2); (try clear hk); (try clear hi); (try clear ho0)) | ((with_reducible refine gate_builtin (b := .append) (xs := #[.tmp 31, .tmp 32]) rfl ?_); at_builtin; refine Kd.R_append_rows (Kd.int .u8) (w0 := w) w.heap.size rfl (.tmp 31) (.tmp 32) 23 5 (.int .u8 0) 1 rfl Try.underlying23 info5 rfl (by decide) (by omega) v126 t124 l0 _ _ _ (fun _ => True) (fun _ => False) rfl rfl ?aO ?aR (fun _ _ h => h) (fun _ h => h.elim) ?aF ?aB ?aS ?aL ?_; (case aR => repeat (first | exact (Kd.C_below HR0.out HB.out) | (with_reducible refine Kd.C_alloc ?_ _) | (with_reducible refine Kd.C_drewN ?_ _) | (with_reducible refine Kd.C_drew ?_))); (case aB => exact (by repeat (first | (with_reducible first | exact HB.out | apply below_alloc | apply pw_below_drewN | apply below_drew1) | exact HB.out))); (case aF => exact (fun _ _ => trivial)); (case aO => exact (by (with_reducible repeat (first | apply Kd.R_alloc | apply Kd.R_drewN | apply Kd.R_drew)); exact HO127.out)); (case aS => exact (below_size (by repeat (first | (with_reducible first | exact HB.out | apply below_alloc | apply pw_below_drewN | apply below_drew1) | exact HB.out)))); (case aL => have := LMc11.out; omega); intro v129 w13 ho hb hg hat; rw [← Ny128.out] at ho; have n0_ := Aside0.mk (hb); have n1_ := Aside0.mk (ho); clear HB; clear HO127; have HB := n0_; have HO130 := n1_; clear n0_ n1_; clear ho hb hg hat))
              go_ret2
              exact ⟨_, by first | rfl | (simp [errW_none, errW_some] <;> rfl) | (simp only [← hji6, ← hji8]; first | rfl | (simp [errW_none, errW_some] <;> rfl)) | (simp [*, errW_none, errW_some] <;> rfl), by (with_reducible repeat (first | apply Kd.R_alloc | apply Kd.R_drewN | apply Kd.R_drew)); exact HO130.out, by repeat (first | (with_reducible first | exact HB.out | apply below_alloc | apply pw_below_drewN | apply below_drew1) | exact HB.out)⟩
            · rw [if_neg c11] at H
              exact absurd H (by simp)
        · rw [if_neg c7] at H
          exact absurd H (by simp)

/-! ### ends_GetRow: function 21 -/
def ends_GetRow.j0 : Nat → List Int → Int → Int → Bool → Option (List Int × Int × Int)
  | 0, _, _, _, _ => none
  | k + 1, x0, x1, x2, x15 => if x15 = true then (some (([] : List Int), 0, 2)) else ((ends_Get.f k x0 x1 x2).bind fun bt131 => (if bt131.2 = 0 then ((ends_Part.f k x0 (wrap64 (x1 + x2)) (wrap64 (bt131.1))).bind fun bt133 => (if bt133.2 = 0 then (some (bt133.1, wrap64 ((wrap64 (x1 + x2)) + (wrap64 (bt131.1))), 0)) else (some (([] : List Int), 0, bt133.2)))) else (some (([] : List Int), 0, bt131.2))))
def ends_GetRow.f (k : Nat) (l0 : List Int) (a1 : Int) (a2 : Int) : Option (List Int × Int × Int) := if a2 = 1 then (ends_GetRow.j0 k l0 a1 a2 false) else (ends_GetRow.j0 k l0 a1 a2 (a2 != 2))
theorem ends_GetRow.mono_l : ∀ k, (∀ y0 y1 y2 y3, LeO (ends_GetRow.j0 k y0 y1 y2 y3) (ends_GetRow.j0 (k + 1) y0 y1 y2 y3))
  | 0 => fun _ _ _ _ r h => by simp [ends_GetRow.j0] at h
  | k + 1 => by
    have ih0 := ends_GetRow.mono_l k
    · intro y0 y1 y2 y3
      unfold ends_GetRow.j0
      repeat' first
      | (with_reducible exact ih0 _ _ _ _)
      | (with_reducible exact ends_Get.mono _ _ _ _)
      | (with_reducible exact ends_Part.mono _ _ _ _)
      | (with_reducible exact LeO.refl _)
      | (with_reducible exact LeO.none _)
      | (with_reducible refine LeO.ite ?_ ?_)
      | (with_reducible refine LeO.bind ?_ (fun _ => ?_))
      | exact ih0 _ _ _ _
      | exact ends_Get.mono _ _ _ _
      | exact ends_Part.mono _ _ _ _
      | exact LeO.none _
      | refine LeO.ite ?_ ?_
      | refine LeO.bind ?_ (fun _ => ?_)
theorem ends_GetRow.mono : ∀ a0 a1 a2 k, LeO (ends_GetRow.f k a0 a1 a2) (ends_GetRow.f (k + 1) a0 a1 a2) := by
  intro a0 a1 a2 k
  have ih0 := ends_GetRow.mono_l k
  unfold ends_GetRow.f
  repeat' first
      | (with_reducible exact ih0 _ _ _ _)
      | (with_reducible exact ends_Get.mono _ _ _ _)
      | (with_reducible exact ends_Part.mono _ _ _ _)
      | (with_reducible exact LeO.refl _)
      | (with_reducible exact LeO.none _)
      | (with_reducible refine LeO.ite ?_ ?_)
      | (with_reducible refine LeO.bind ?_ (fun _ => ?_))
      | exact ih0 _ _ _ _
      | exact ends_Get.mono _ _ _ _
      | exact ends_Part.mono _ _ _ _
      | exact LeO.none _
      | refine LeO.ite ?_ ?_
      | refine LeO.bind ?_ (fun _ => ?_)
set_option maxHeartbeats 8000000 in
set_option maxRecDepth 100000 in
theorem ends_GetRow.calls (k : Nat) (A0 : Option Addr) (c0 : Nat) (l0 : List Int) (a1 : Int) (a2 : Int) (r1 : List Int) (r2 : Int) (r3 : Int) (w : World) (hr0 : Kd.C (Kd.int .u8) w A0 l0.length l0) (hc0 : l0.length ≤ c0) (h : ends_GetRow.f k l0 a1 a2 = some (r1, r2, r3)) :
    Calls Try.prog 21 #[.slice A0 l0.length c0, .int .i64 a1, .int .i64 a2] w fun e w' => ∃ v0_ : Value, e = .returned (.tuple #[v0_, .int .i64 r2, .int .i64 r3]) ∧ Kd.R (Kd.int .u8) 5 w' w.heap.size (fun _ => True) v0_ r1 ∧ Below w.heap.size w w' := by
  have HR0 := Aside0.mk hr0
  have HC0 := Aside0.mk hc0
  clear hr0 hc0
  have HB := Aside0.mk (Below.refl w.heap.size w)
  have H : (if a2 = 1 then (ends_GetRow.j0 k l0 a1 a2 false) else (ends_GetRow.j0 k l0 a1 a2 (a2 != 2))) = some (r1, r2, r3) := h
  clear h
  have HC4 := Aside0.mk H
  clear H
  go_enter Try.func21, Try.ntmps21
  go_upto_region 1 with (fail)
  go_cut [15] (fun v15 wc => ∃ (kq : Nat) (x15_3 : Bool), v15 = .bool x15_3 ∧ Aside0 (ends_GetRow.j0 kq l0 a1 a2 x15_3 = some (r1, r2, r3)) ∧ Aside0 (kq ≤ k) ∧ Aside0 (Below w.heap.size w wc))
  case first =>
    have H := HC4.out
    clear HC4
    by_cases c5 : a2 = 1
    · rw [if_pos c5] at H
      have c5b0 : (a2 == 1) = true := beq_iff_eq.mpr c5
      have c5b1 : (a2 != 1) = false := bne_eq_false_iff_eq.mpr c5
      clear c5
      (first | rw [c5b0] | (simp only [i64_w, i32_w]; rw [c5b0]) | skip)
      have H' := Aside0.mk H
      clear H
      go_wp2
      go_meet
      case rel => exact ⟨_, (false), (by first | rfl | (simp; done) | (simp [*]; done)), H', ⟨by first | omega | exact Nat.le_refl _⟩, ⟨by repeat (first | (with_reducible first | exact HB.out | apply below_alloc | apply pw_below_drewN | apply below_drew1) | exact HB.out)⟩⟩
    · rw [if_neg c5] at H
      have c5b0 : (a2 == 1) = false := beq_eq_false_iff_ne.mpr c5
      have c5b1 : (a2 != 1) = true := bne_iff_ne.mpr c5
      (first | rw [c5b0] | (simp only [i64_w, i32_w]; rw [c5b0]) | skip)
      have H' := Aside0.mk H
      clear H
      go_wp2
      go_meet
      case rel => exact ⟨_, ((a2 != 2)), (by first | rfl | (simp; done) | (simp [*]; done)), H', ⟨by first | omega | exact Nat.le_refl _⟩, ⟨by repeat (first | (with_reducible first | exact HB.out | apply below_alloc | apply pw_below_drewN | apply below_drew1) | exact HB.out)⟩⟩
  case rest =>
    clear HC4
    try clear c2
    try clear p2
    try clear c5
    try clear c5b0
    try clear c5b1
    obtain ⟨kq, x15_3, rfl, HA, HJ3, HB⟩ := hcut
    cases kq with
    | zero => exact absurd HA.out (by simp [ends_GetRow.j0])
    | succ kj3 =>
      have H := HA.out
      clear HA
      simp only [ends_GetRow.j0] at H
      by_cases c6 : x15_3 = true
      · subst c6
        have H1 : (some (([] : List Int), 0, 2)) = some (r1, r2, r3) := by rw [if_pos rfl] at H; exact H
        clear H
        have H := H1
        clear H1
        simp only [Option.some.injEq, Prod.mk.injEq] at H
        obtain ⟨rfl, rfl, rfl⟩ := H
        go_wp2
        go_ret3
        exact ⟨_, by first | rfl | (simp [errW_none, errW_some] <;> rfl) | (simp [*, errW_none, errW_some] <;> rfl), by first | exact Kd.R_nil _ _ _ _ _ | exact Kd.N_nil _ _ _ _ _ | exact Kd.V_nil _ _ _ _ _ | exact Kd.Q_nil _ _ _ _ _ | exact Kd.S_nil _ _ _ _ _, by repeat (first | (with_reducible first | exact HB.out | apply below_alloc | apply pw_below_drewN | apply below_drew1) | exact HB.out)⟩
      · replace c6 := Bool.eq_false_iff.mpr c6
        subst c6
        have H1 : ((ends_Get.f kj3 l0 a1 a2).bind fun bt131 => (if bt131.2 = 0 then ((ends_Part.f kj3 l0 (wrap64 (a1 + a2)) (wrap64 (bt131.1))).bind fun bt133 => (if bt133.2 = 0 then (some (bt133.1, wrap64 ((wrap64 (a1 + a2)) + (wrap64 (bt131.1))), 0)) else (some (([] : List Int), 0, bt133.2)))) else (some (([] : List Int), 0, bt131.2)))) = some (r1, r2, r3) := by rw [if_neg (show ¬ (false = true) by decide)] at H; exact H
        clear H
        have H := H1
        clear H1
        replace H := Option.bind_eq_some_iff.mp H
        obtain ⟨⟨t131, t132⟩, A70, H⟩ := H
        replace H : (if t132 = 0 then ((ends_Part.f kj3 l0 (wrap64 (a1 + a2)) (wrap64 (t131))).bind fun bt133 => (if bt133.2 = 0 then (some (bt133.1, wrap64 ((wrap64 (a1 + a2)) + (wrap64 (t131))), 0)) else (some (([] : List Int), 0, bt133.2)))) else (some (([] : List Int), 0, t132))) = some (r1, r2, r3) := H
        have A7 := Aside0.mk A70
        clear A70
        by_cases c8 : t132 = 0
        · rw [if_pos c8] at H
          have c8b0 : (t132 == 0) = true := beq_iff_eq.mpr c8
          have c8b1 : (t132 != 0) = false := bne_eq_false_iff_eq.mpr c8
          clear c8
          replace H := Option.bind_eq_some_iff.mp H
          obtain ⟨⟨t133, t134⟩, A90, H⟩ := H
          replace H : (if t134 = 0 then (some (t133, wrap64 ((wrap64 (a1 + a2)) + (wrap64 (t131))), 0)) else (some (([] : List Int), 0, t134))) = some (r1, r2, r3) := H
          have A9 := Aside0.mk A90
          clear A90
          by_cases c10 : t134 = 0
          · rw [if_pos c10] at H
            have c10b0 : (t134 == 0) = true := beq_iff_eq.mpr c10
            have c10b1 : (t134 != 0) = false := bne_eq_false_iff_eq.mpr c10
            clear c10
            simp only [Option.some.injEq, Prod.mk.injEq] at H
            obtain ⟨rfl, rfl, rfl⟩ := H
            go_wp2_with (first | ((with_reducible refine gate_callee (f := 14) rfl ?_); refine goesL_ (some 20) rfl rfl Try.func14 (by kernel_rfl) rfl #[.slice A0 l0.length c0, .int .i64 a1, .int .i64 a2] rfl (by (try simp only [List.map_toArray, List.map_cons, List.map_nil]); first | done | rfl | (simp only [List.length_drop, List.length_take]; rfl)) ?_; (with_reducible refine (ends_Get.calls kj3 _ _ l0 a1 a2 t131 t132 _ ?side1 ?side2 A7.out).mono ?_); (case side1 => repeat (first | exact (Kd.C_below HR0.out HB.out) | (with_reducible refine Kd.C_alloc ?_ _) | (with_reducible refine Kd.C_drewN ?_ _) | (with_reducible refine Kd.C_drew ?_))); (case side2 => exact HC0.out); rintro e w11 ⟨rfl, hb⟩; refine ⟨_, rfl, ?_⟩; have n0_ := Aside0.mk (below_step (by repeat (first | (with_reducible first | exact HB.out | apply below_alloc | apply pw_below_drewN | apply below_drew1) | exact HB.out)) hb); clear HB; have HB := n0_; clear n0_; (try clear hb); (try clear hb2); (try clear hk); (try clear hi)) | ((with_reducible refine gate_callee (f := 16) rfl ?_); refine goesL_ (some 33) rfl rfl Try.func16 (by kernel_rfl) rfl #[.slice A0 l0.length c0, .int .i64 (wrap64 (a1 + a2)), .int .i64 (wrap64 (t131))] rfl (by (try simp only [List.map_toArray, List.map_cons, List.map_nil]); first | done | rfl | (simp only [List.length_drop, List.length_take]; rfl)) ?_; (with_reducible refine (ends_Part.calls kj3 _ _ l0 (wrap64 (a1 + a2)) (wrap64 (t131)) t133 t134 _ ?side1 ?side2 A9.out).mono ?_); (case side1 => repeat (first | exact (Kd.C_below HR0.out HB.out) | (with_reducible refine Kd.C_alloc ?_ _) | (with_reducible refine Kd.C_drewN ?_ _) | (with_reducible refine Kd.C_drew ?_))); (case side2 => exact HC0.out); rintro e w12 ⟨v135, rfl, ho0, hb⟩; refine ⟨_, rfl, ?_⟩; have n0_ := Aside0.mk (Kd.R_lower ho0 (below_size (by repeat (first | (with_reducible first | exact HB.out | apply below_alloc | apply pw_below_drewN | apply below_drew1) | exact HB.out)))); have n1_ := Aside0.mk (below_step (by repeat (first | (with_reducible first | exact HB.out | apply below_alloc | apply pw_below_drewN | apply below_drew1) | exact HB.out)) hb); clear HB; have HO136 := n0_; have HB := n1_; clear n0_ n1_; (try clear hb); (try clear hb2); (try clear hk); (try clear hi); (try clear ho0)))
            go_ret3
            exact ⟨_, by first | rfl | (simp [errW_none, errW_some] <;> rfl) | (simp [*, errW_none, errW_some] <;> rfl), by (with_reducible repeat (first | apply Kd.R_alloc | apply Kd.R_drewN | apply Kd.R_drew)); exact HO136.out, by repeat (first | (with_reducible first | exact HB.out | apply below_alloc | apply pw_below_drewN | apply below_drew1) | exact HB.out)⟩
          · rw [if_neg c10] at H
            have c10b0 : (t134 == 0) = false := beq_eq_false_iff_ne.mpr c10
            have c10b1 : (t134 != 0) = true := bne_iff_ne.mpr c10
            simp only [Option.some.injEq, Prod.mk.injEq] at H
            obtain ⟨rfl, rfl, rfl⟩ := H
            go_wp2_with (first | ((with_reducible refine gate_callee (f := 14) rfl ?_); refine goesL_ (some 20) rfl rfl Try.func14 (by kernel_rfl) rfl #[.slice A0 l0.length c0, .int .i64 a1, .int .i64 a2] rfl (by (try simp only [List.map_toArray, List.map_cons, List.map_nil]); first | done | rfl | (simp only [List.length_drop, List.length_take]; rfl)) ?_; (with_reducible refine (ends_Get.calls kj3 _ _ l0 a1 a2 t131 t132 _ ?side1 ?side2 A7.out).mono ?_); (case side1 => repeat (first | exact (Kd.C_below HR0.out HB.out) | (with_reducible refine Kd.C_alloc ?_ _) | (with_reducible refine Kd.C_drewN ?_ _) | (with_reducible refine Kd.C_drew ?_))); (case side2 => exact HC0.out); rintro e w13 ⟨rfl, hb⟩; refine ⟨_, rfl, ?_⟩; have n0_ := Aside0.mk (below_step (by repeat (first | (with_reducible first | exact HB.out | apply below_alloc | apply pw_below_drewN | apply below_drew1) | exact HB.out)) hb); clear HB; have HB := n0_; clear n0_; (try clear hb); (try clear hb2); (try clear hk); (try clear hi)) | ((with_reducible refine gate_callee (f := 16) rfl ?_); refine goesL_ (some 33) rfl rfl Try.func16 (by kernel_rfl) rfl #[.slice A0 l0.length c0, .int .i64 (wrap64 (a1 + a2)), .int .i64 (wrap64 (t131))] rfl (by (try simp only [List.map_toArray, List.map_cons, List.map_nil]); first | done | rfl | (simp only [List.length_drop, List.length_take]; rfl)) ?_; (with_reducible refine (ends_Part.calls kj3 _ _ l0 (wrap64 (a1 + a2)) (wrap64 (t131)) t133 t134 _ ?side1 ?side2 A9.out).mono ?_); (case side1 => repeat (first | exact (Kd.C_below HR0.out HB.out) | (with_reducible refine Kd.C_alloc ?_ _) | (with_reducible refine Kd.C_drewN ?_ _) | (with_reducible refine Kd.C_drew ?_))); (case side2 => exact HC0.out); rintro e w14 ⟨v135, rfl, ho0, hb⟩; refine ⟨_, rfl, ?_⟩; have n0_ := Aside0.mk (Kd.R_lower ho0 (below_size (by repeat (first | (with_reducible first | exact HB.out | apply below_alloc | apply pw_below_drewN | apply below_drew1) | exact HB.out)))); have n1_ := Aside0.mk (below_step (by repeat (first | (with_reducible first | exact HB.out | apply below_alloc | apply pw_below_drewN | apply below_drew1) | exact HB.out)) hb); clear HB; have HO136 := n0_; have HB := n1_; clear n0_ n1_; (try clear hb); (try clear hb2); (try clear hk); (try clear hi); (try clear ho0)))
            go_ret3
            exact ⟨_, by first | rfl | (simp [errW_none, errW_some] <;> rfl) | (simp [*, errW_none, errW_some] <;> rfl), by first | exact Kd.R_nil _ _ _ _ _ | exact Kd.N_nil _ _ _ _ _ | exact Kd.V_nil _ _ _ _ _ | exact Kd.Q_nil _ _ _ _ _ | exact Kd.S_nil _ _ _ _ _, by repeat (first | (with_reducible first | exact HB.out | apply below_alloc | apply pw_below_drewN | apply below_drew1) | exact HB.out)⟩
        · rw [if_neg c8] at H
          have c8b0 : (t132 == 0) = false := beq_eq_false_iff_ne.mpr c8
          have c8b1 : (t132 != 0) = true := bne_iff_ne.mpr c8
          simp only [Option.some.injEq, Prod.mk.injEq] at H
          obtain ⟨rfl, rfl, rfl⟩ := H
          go_wp2_with (first | ((with_reducible refine gate_callee (f := 14) rfl ?_); refine goesL_ (some 20) rfl rfl Try.func14 (by kernel_rfl) rfl #[.slice A0 l0.length c0, .int .i64 a1, .int .i64 a2] rfl (by (try simp only [List.map_toArray, List.map_cons, List.map_nil]); first | done | rfl | (simp only [List.length_drop, List.length_take]; rfl)) ?_; (with_reducible refine (ends_Get.calls kj3 _ _ l0 a1 a2 t131 t132 _ ?side1 ?side2 A7.out).mono ?_); (case side1 => repeat (first | exact (Kd.C_below HR0.out HB.out) | (with_reducible refine Kd.C_alloc ?_ _) | (with_reducible refine Kd.C_drewN ?_ _) | (with_reducible refine Kd.C_drew ?_))); (case side2 => exact HC0.out); rintro e w15 ⟨rfl, hb⟩; refine ⟨_, rfl, ?_⟩; have n0_ := Aside0.mk (below_step (by repeat (first | (with_reducible first | exact HB.out | apply below_alloc | apply pw_below_drewN | apply below_drew1) | exact HB.out)) hb); clear HB; have HB := n0_; clear n0_; (try clear hb); (try clear hb2); (try clear hk); (try clear hi)))
          go_ret3
          exact ⟨_, by first | rfl | (simp [errW_none, errW_some] <;> rfl) | (simp [*, errW_none, errW_some] <;> rfl), by first | exact Kd.R_nil _ _ _ _ _ | exact Kd.N_nil _ _ _ _ _ | exact Kd.V_nil _ _ _ _ _ | exact Kd.Q_nil _ _ _ _ _ | exact Kd.S_nil _ _ _ _ _, by repeat (first | (with_reducible first | exact HB.out | apply below_alloc | apply pw_below_drewN | apply below_drew1) | exact HB.out)⟩

/-! ### garderobelaw02_lives: function 12 -/
def garderobelaw02_lives.f (k : Nat)  : Option (Bool) := (ends_Put.f k 258 2).bind fun bt137 => ((ends_Get.f k bt137.1 0 2).bind fun bt141 => ((ends_PutRow.f k (([97] : List Int)) 2).bind fun bt146 => ((ends_GetRow.f k (([2, 97] : List Int)) 0 1).bind fun bt153 => (if bt137.2 = 0 then ((garderoberef00_Same.f k bt137.1 (([1, 2] : List Int))).bind fun t161 => (if t161 = true then (if bt141.2 = 0 then (if bt141.1 = 258 then (if bt146.2 = 0 then ((garderoberef00_Same.f k bt146.1 (([0, 1, 97] : List Int))).bind fun t165 => (if t165 = true then (some (bt153.2.2 == 4)) else (none))) else (none)) else (none)) else (none)) else (none))) else (none)))))
theorem garderobelaw02_lives.mono : ∀ k, LeO (garderobelaw02_lives.f k ) (garderobelaw02_lives.f (k + 1) ) := by
  intro  k
  unfold garderobelaw02_lives.f
  repeat' first
      | (with_reducible exact ends_Get.mono _ _ _ _)
      | (with_reducible exact ends_GetRow.mono _ _ _ _)
      | (with_reducible exact ends_Put.mono _ _ _)
      | (with_reducible exact ends_PutRow.mono _ _ _)
      | (with_reducible exact garderoberef00_Same.mono _ _ _)
      | (with_reducible exact LeO.refl _)
      | (with_reducible exact LeO.none _)
      | (with_reducible refine LeO.ite ?_ ?_)
      | (with_reducible refine LeO.bind ?_ (fun _ => ?_))
      | exact ends_Get.mono _ _ _ _
      | exact ends_GetRow.mono _ _ _ _
      | exact ends_Put.mono _ _ _
      | exact ends_PutRow.mono _ _ _
      | exact garderoberef00_Same.mono _ _ _
      | exact LeO.none _
      | refine LeO.ite ?_ ?_
      | refine LeO.bind ?_ (fun _ => ?_)
set_option maxHeartbeats 8000000 in
set_option maxRecDepth 100000 in
theorem garderobelaw02_lives.calls (k : Nat)  (r : Bool) (w : World) (h : garderobelaw02_lives.f k  = some r) :
    Calls Try.prog 12 #[] w fun e w' => e = .returned (.bool r) ∧ Below w.heap.size w w' := by
  have HB := Aside0.mk (Below.refl w.heap.size w)
  have H : ((ends_Put.f k 258 2).bind fun bt137 => ((ends_Get.f k bt137.1 0 2).bind fun bt141 => ((ends_PutRow.f k (([97] : List Int)) 2).bind fun bt146 => ((ends_GetRow.f k (([2, 97] : List Int)) 0 1).bind fun bt153 => (if bt137.2 = 0 then ((garderoberef00_Same.f k bt137.1 (([1, 2] : List Int))).bind fun t161 => (if t161 = true then (if bt141.2 = 0 then (if bt141.1 = 258 then (if bt146.2 = 0 then ((garderoberef00_Same.f k bt146.1 (([0, 1, 97] : List Int))).bind fun t165 => (if t165 = true then (some (bt153.2.2 == 4)) else (none))) else (none)) else (none)) else (none)) else (none))) else (none)))))) = some r := h
  clear h
  replace H := Option.bind_eq_some_iff.mp H
  obtain ⟨⟨t137, t138⟩, A10, H⟩ := H
  replace H : ((ends_Get.f k t137 0 2).bind fun bt141 => ((ends_PutRow.f k (([97] : List Int)) 2).bind fun bt146 => ((ends_GetRow.f k (([2, 97] : List Int)) 0 1).bind fun bt153 => (if t138 = 0 then ((garderoberef00_Same.f k t137 (([1, 2] : List Int))).bind fun t161 => (if t161 = true then (if bt141.2 = 0 then (if bt141.1 = 258 then (if bt146.2 = 0 then ((garderoberef00_Same.f k bt146.1 (([0, 1, 97] : List Int))).bind fun t165 => (if t165 = true then (some (bt153.2.2 == 4)) else (none))) else (none)) else (none)) else (none)) else (none))) else (none))))) = some r := H
  have A1 := Aside0.mk A10
  clear A10
  replace H := Option.bind_eq_some_iff.mp H
  obtain ⟨⟨t141, t142⟩, A20, H⟩ := H
  replace H : ((ends_PutRow.f k (([97] : List Int)) 2).bind fun bt146 => ((ends_GetRow.f k (([2, 97] : List Int)) 0 1).bind fun bt153 => (if t138 = 0 then ((garderoberef00_Same.f k t137 (([1, 2] : List Int))).bind fun t161 => (if t161 = true then (if t142 = 0 then (if t141 = 258 then (if bt146.2 = 0 then ((garderoberef00_Same.f k bt146.1 (([0, 1, 97] : List Int))).bind fun t165 => (if t165 = true then (some (bt153.2.2 == 4)) else (none))) else (none)) else (none)) else (none)) else (none))) else (none)))) = some r := H
  have A2 := Aside0.mk A20
  clear A20
  obtain ⟨y143, hy143⟩ : ∃ y_ : List Int, y_ = (([97] : List Int)) := ⟨_, rfl⟩
  replace H : ((ends_PutRow.f k y143 2).bind fun bt146 => ((ends_GetRow.f k (([2, 97] : List Int)) 0 1).bind fun bt153 => (if t138 = 0 then ((garderoberef00_Same.f k t137 (([1, 2] : List Int))).bind fun t161 => (if t161 = true then (if t142 = 0 then (if t141 = 258 then (if bt146.2 = 0 then ((garderoberef00_Same.f k bt146.1 (([0, 1, 97] : List Int))).bind fun t165 => (if t165 = true then (some (bt153.2.2 == 4)) else (none))) else (none)) else (none)) else (none)) else (none))) else (none)))) = some r := by first | (rw [hy143]; with_reducible exact H) | (have H2_ := (Option.bind_some _ _).symm.trans H; rw [hy143]; with_reducible exact H2_) | (have H2_ := (Option.bind_some _ _).symm.trans H; with_reducible exact H2_) | with_reducible exact H | (rw [hy143]; exact H) | exact H
  have Ny143 := Aside0.mk hy143
  clear hy143
  replace H := Option.bind_eq_some_iff.mp H
  obtain ⟨⟨t146, t147⟩, A30, H⟩ := H
  replace H : ((ends_GetRow.f k (([2, 97] : List Int)) 0 1).bind fun bt153 => (if t138 = 0 then ((garderoberef00_Same.f k t137 (([1, 2] : List Int))).bind fun t161 => (if t161 = true then (if t142 = 0 then (if t141 = 258 then (if t147 = 0 then ((garderoberef00_Same.f k t146 (([0, 1, 97] : List Int))).bind fun t165 => (if t165 = true then (some (bt153.2.2 == 4)) else (none))) else (none)) else (none)) else (none)) else (none))) else (none))) = some r := H
  have A3 := Aside0.mk A30
  clear A30
  obtain ⟨y150, hy150⟩ : ∃ y_ : List Int, y_ = (([2, 97] : List Int)) := ⟨_, rfl⟩
  replace H : ((ends_GetRow.f k y150 0 1).bind fun bt153 => (if t138 = 0 then ((garderoberef00_Same.f k t137 (([1, 2] : List Int))).bind fun t161 => (if t161 = true then (if t142 = 0 then (if t141 = 258 then (if t147 = 0 then ((garderoberef00_Same.f k t146 (([0, 1, 97] : List Int))).bind fun t165 => (if t165 = true then (some (bt153.2.2 == 4)) else (none))) else (none)) else (none)) else (none)) else (none))) else (none))) = some r := by first | (rw [hy150]; with_reducible exact H) | (have H2_ := (Option.bind_some _ _).symm.trans H; rw [hy150]; with_reducible exact H2_) | (have H2_ := (Option.bind_some _ _).symm.trans H; with_reducible exact H2_) | with_reducible exact H | (rw [hy150]; exact H) | exact H
  have Ny150 := Aside0.mk hy150
  clear hy150
  replace H := Option.bind_eq_some_iff.mp H
  obtain ⟨⟨t153, t154, t155⟩, A40, H⟩ := H
  replace H : (if t138 = 0 then ((garderoberef00_Same.f k t137 (([1, 2] : List Int))).bind fun t161 => (if t161 = true then (if t142 = 0 then (if t141 = 258 then (if t147 = 0 then ((garderoberef00_Same.f k t146 (([0, 1, 97] : List Int))).bind fun t165 => (if t165 = true then (some (t155 == 4)) else (none))) else (none)) else (none)) else (none)) else (none))) else (none)) = some r := H
  have A4 := Aside0.mk A40
  clear A40
  by_cases c5 : t138 = 0
  · rw [if_pos c5] at H
    have c5b0 : (t138 == 0) = true := beq_iff_eq.mpr c5
    have c5b1 : (t138 != 0) = false := bne_eq_false_iff_eq.mpr c5
    clear c5
    obtain ⟨y158, hy158⟩ : ∃ y_ : List Int, y_ = (([1, 2] : List Int)) := ⟨_, rfl⟩
    replace H : ((garderoberef00_Same.f k t137 y158).bind fun t161 => (if t161 = true then (if t142 = 0 then (if t141 = 258 then (if t147 = 0 then ((garderoberef00_Same.f k t146 (([0, 1, 97] : List Int))).bind fun t165 => (if t165 = true then (some (t155 == 4)) else (none))) else (none)) else (none)) else (none)) else (none))) = some r := by first | (rw [hy158]; with_reducible exact H) | (have H2_ := (Option.bind_some _ _).symm.trans H; rw [hy158]; with_reducible exact H2_) | (have H2_ := (Option.bind_some _ _).symm.trans H; with_reducible exact H2_) | with_reducible exact H | (rw [hy158]; exact H) | exact H
    have Ny158 := Aside0.mk hy158
    clear hy158
    replace H := Option.bind_eq_some_iff.mp H
    obtain ⟨t161, A60, H⟩ := H
    replace H : (if t161 = true then (if t142 = 0 then (if t141 = 258 then (if t147 = 0 then ((garderoberef00_Same.f k t146 (([0, 1, 97] : List Int))).bind fun t165 => (if t165 = true then (some (t155 == 4)) else (none))) else (none)) else (none)) else (none)) else (none)) = some r := H
    have A6 := Aside0.mk A60
    clear A60
    by_cases c7 : t161 = true
    · subst c7
      have H1 : (if t142 = 0 then (if t141 = 258 then (if t147 = 0 then ((garderoberef00_Same.f k t146 (([0, 1, 97] : List Int))).bind fun t165 => (if t165 = true then (some (t155 == 4)) else (none))) else (none)) else (none)) else (none)) = some r := by rw [if_pos rfl] at H; exact H
      clear H
      have H := H1
      clear H1
      by_cases c8 : t142 = 0
      · rw [if_pos c8] at H
        have c8b0 : (t142 == 0) = true := beq_iff_eq.mpr c8
        have c8b1 : (t142 != 0) = false := bne_eq_false_iff_eq.mpr c8
        clear c8
        by_cases c9 : t141 = 258
        · rw [if_pos c9] at H
          have c9b0 : (t141 == 258) = true := beq_iff_eq.mpr c9
          have c9b1 : (t141 != 258) = false := bne_eq_false_iff_eq.mpr c9
          clear c9
          by_cases c10 : t147 = 0
          · rw [if_pos c10] at H
            have c10b0 : (t147 == 0) = true := beq_iff_eq.mpr c10
            have c10b1 : (t147 != 0) = false := bne_eq_false_iff_eq.mpr c10
            clear c10
            obtain ⟨y162, hy162⟩ : ∃ y_ : List Int, y_ = (([0, 1, 97] : List Int)) := ⟨_, rfl⟩
            replace H : ((garderoberef00_Same.f k t146 y162).bind fun t165 => (if t165 = true then (some (t155 == 4)) else (none))) = some r := by first | (rw [hy162]; with_reducible exact H) | (have H2_ := (Option.bind_some _ _).symm.trans H; rw [hy162]; with_reducible exact H2_) | (have H2_ := (Option.bind_some _ _).symm.trans H; with_reducible exact H2_) | with_reducible exact H | (rw [hy162]; exact H) | exact H
            have Ny162 := Aside0.mk hy162
            clear hy162
            replace H := Option.bind_eq_some_iff.mp H
            obtain ⟨t165, A110, H⟩ := H
            replace H : (if t165 = true then (some (t155 == 4)) else (none)) = some r := H
            have A11 := Aside0.mk A110
            clear A110
            by_cases c12 : t165 = true
            · subst c12
              have H1 : (some (t155 == 4)) = some r := by rw [if_pos rfl] at H; exact H
              clear H
              have H := H1
              clear H1
              obtain rfl := Option.some.inj H
              go_enter Try.func12, Try.ntmps12
              go_wp2_with (first | ((with_reducible refine gate_callee (f := 9) rfl ?_); refine goesL_ (some 11) rfl rfl Try.func9 (by kernel_rfl) rfl #[.int .u32 258, .int .i64 2] rfl (by (try simp only [List.map_toArray, List.map_cons, List.map_nil]); first | done | rfl | (simp only [List.length_drop, List.length_take]; rfl)) ?_; (with_reducible refine (ends_Put.calls k 258 2 t137 t138 _ A1.out).mono ?_); rintro e w13 ⟨v139, rfl, ho0, hb⟩; refine ⟨_, rfl, ?_⟩; have n0_ := Aside0.mk (Kd.R_lower ho0 (below_size (by repeat (first | (with_reducible first | exact HB.out | apply below_alloc | apply pw_below_drewN | apply below_drew1) | exact HB.out)))); have n1_ := Aside0.mk (below_step (by repeat (first | (with_reducible first | exact HB.out | apply below_alloc | apply pw_below_drewN | apply below_drew1) | exact HB.out)) hb); clear HB; have HO140 := n0_; have HB := n1_; clear n0_ n1_; (try clear hb); (try clear hb2); (try clear hk); (try clear hi); (try clear ho0); obtain ⟨Ao14, co14, eo14⟩ := Kd.R_slice HO140.out; subst eo14) | ((with_reducible refine gate_callee (f := 14) rfl ?_); refine goesL_ (some 16) rfl rfl Try.func14 (by kernel_rfl) rfl #[.slice Ao14 t137.length co14, .int .i64 0, .int .i64 2] rfl (by (try simp only [List.map_toArray, List.map_cons, List.map_nil]); first | done | rfl | (simp only [List.length_drop, List.length_take]; rfl)) ?_; (with_reducible refine (ends_Get.calls k _ _ t137 0 2 t141 t142 _ ?side1 ?side2 A2.out).mono ?_); (case side1 => repeat (first | exact (Kd.R_reads' HO140.out).2.2 | (with_reducible refine Kd.C_alloc ?_ _) | (with_reducible refine Kd.C_drewN ?_ _) | (with_reducible refine Kd.C_drew ?_))); (case side2 => exact (Kd.R_reads' HO140.out).2.1); rintro e w15 ⟨rfl, hb⟩; refine ⟨_, rfl, ?_⟩; have n0_ := Aside0.mk (Kd.R_below (by (with_reducible repeat (first | apply Kd.R_alloc | apply Kd.R_drewN | apply Kd.R_drew)); exact HO140.out) hb); have n1_ := Aside0.mk (below_step (by repeat (first | (with_reducible first | exact HB.out | apply below_alloc | apply pw_below_drewN | apply below_drew1) | exact HB.out)) hb); clear HO140; clear HB; have HO140 := n0_; have HB := n1_; clear n0_ n1_; (try clear hb); (try clear hb2); (try clear hk); (try clear hi)) | ((with_reducible refine gate_dst (N := 20) rfl ?_); (try (refine gate_guard (by rfl) ?_; dsimp only)); refine Kd.R_lit (Kd.int .u8) _ 5 ?hg (N := 20) ?hd (xs := ([97] : List Int)) (inner := [.int .u8 97]) (ok := fun _ => True) (okp := fun _ => True) ?hr ?hp (fun _ hk => hk) trivial (Below.refl _ _) (Nat.le_refl _) (by simp) ?_; (case hd => rfl); (case hg => rfl); (case hr => first | (go_simp; done) | (go_simp; rfl)); (case hp => exact (Reps.one (show Kd.M (Kd.int .u8) _ _ _ 97 [.int .u8 97] from rfl) (Reps.none _ _))); intro v144 w16 ho17 hb hg_ hnew_; clear hg_ hnew_; (first | rw [← Ny143.out] at ho17 | (simp only [Int.reduceToNat] at ho17; rw [← Ny143.out] at ho17)); have n0_ := Aside0.mk (Kd.R_elder' (by (with_reducible repeat (first | apply Kd.R_alloc | apply Kd.R_drewN | apply Kd.R_drew)); exact HO140.out) (Kd.R_base ho17) hb); have n1_ := Aside0.mk (Kd.R_lower (Kd.R_new' ho17 (Kd.R_lt (by (with_reducible repeat (first | apply Kd.R_alloc | apply Kd.R_drewN | apply Kd.R_drew)); exact HO140.out))) (below_size (by repeat (first | (with_reducible first | exact HB.out | apply below_alloc | apply pw_below_drewN | apply below_drew1) | exact HB.out)))); have n2_ := Aside0.mk (below_step (by repeat (first | (with_reducible first | exact HB.out | apply below_alloc | apply pw_below_drewN | apply below_drew1) | exact HB.out)) hb); clear HO140; clear HB; have HO140 := n0_; have HO145 := n1_; have HB := n2_; clear n0_ n1_ n2_; clear hb ho17; obtain ⟨Ao18, co18, eo18⟩ := Kd.R_slice HO145.out; subst eo18) | ((with_reducible refine gate_callee (f := 19) rfl ?_); refine goesL_ (some 21) rfl rfl Try.func19 (by kernel_rfl) rfl #[.slice Ao18 y143.length co18, .int .i64 2] rfl (by (try simp only [List.map_toArray, List.map_cons, List.map_nil]); first | done | rfl | (simp only [List.length_drop, List.length_take]; rfl)) ?_; (with_reducible refine (ends_PutRow.calls k _ _ y143 2 t146 t147 _ ?side1 ?side2 A3.out).mono ?_); (case side1 => repeat (first | exact (Kd.R_reads' HO145.out).2.2 | (with_reducible refine Kd.C_alloc ?_ _) | (with_reducible refine Kd.C_drewN ?_ _) | (with_reducible refine Kd.C_drew ?_))); (case side2 => exact (Kd.R_reads' HO145.out).2.1); rintro e w19 ⟨v148, rfl, ho0, hb⟩; refine ⟨_, rfl, ?_⟩; have n0_ := Aside0.mk (Kd.R_elder' (by (with_reducible repeat (first | apply Kd.R_alloc | apply Kd.R_drewN | apply Kd.R_drew)); exact HO140.out) (Kd.R_base ho0) hb); have n1_ := Aside0.mk (Kd.R_elder' (by (with_reducible repeat (first | apply Kd.R_alloc | apply Kd.R_drewN | apply Kd.R_drew)); exact HO145.out) (Kd.R_base ho0) hb); have n2_ := Aside0.mk (Kd.R_lower (Kd.R_new' (Kd.R_new' ho0 (Kd.R_lt (by (with_reducible repeat (first | apply Kd.R_alloc | apply Kd.R_drewN | apply Kd.R_drew)); exact HO140.out))) (Kd.R_lt (by (with_reducible repeat (first | apply Kd.R_alloc | apply Kd.R_drewN | apply Kd.R_drew)); exact HO145.out))) (below_size (by repeat (first | (with_reducible first | exact HB.out | apply below_alloc | apply pw_below_drewN | apply below_drew1) | exact HB.out)))); have n3_ := Aside0.mk (below_step (by repeat (first | (with_reducible first | exact HB.out | apply below_alloc | apply pw_below_drewN | apply below_drew1) | exact HB.out)) hb); clear HO140; clear HO145; clear HB; have HO140 := n0_; have HO145 := n1_; have HO149 := n2_; have HB := n3_; clear n0_ n1_ n2_ n3_; (try clear hb); (try clear hb2); (try clear hk); (try clear hi); (try clear ho0)) | ((with_reducible refine gate_dst (N := 25) rfl ?_); (try (refine gate_guard (by rfl) ?_; dsimp only)); refine Kd.R_lit (Kd.int .u8) _ 5 ?hg (N := 25) ?hd (xs := ([2, 97] : List Int)) (inner := [.int .u8 2, .int .u8 97]) (ok := fun _ => True) (okp := fun _ => True) ?hr ?hp (fun _ hk => hk) trivial (Below.refl _ _) (Nat.le_refl _) (by simp) ?_; (case hd => rfl); (case hg => rfl); (case hr => first | (go_simp; done) | (go_simp; rfl)); (case hp => exact (Reps.one (show Kd.M (Kd.int .u8) _ _ _ 2 [.int .u8 2] from rfl) (Reps.one (show Kd.M (Kd.int .u8) _ _ _ 97 [.int .u8 97] from rfl) (Reps.none _ _)))); intro v151 w20 ho21 hb hg_ hnew_; clear hg_ hnew_; (first | rw [← Ny150.out] at ho21 | (simp only [Int.reduceToNat] at ho21; rw [← Ny150.out] at ho21)); have n0_ := Aside0.mk (Kd.R_elder' (by (with_reducible repeat (first | apply Kd.R_alloc | apply Kd.R_drewN | apply Kd.R_drew)); exact HO140.out) (Kd.R_base ho21) hb); have n1_ := Aside0.mk (Kd.R_elder' (by (with_reducible repeat (first | apply Kd.R_alloc | apply Kd.R_drewN | apply Kd.R_drew)); exact HO145.out) (Kd.R_base ho21) hb); have n2_ := Aside0.mk (Kd.R_elder' (by (with_reducible repeat (first | apply Kd.R_alloc | apply Kd.R_drewN | apply Kd.R_drew)); exact HO149.out) (Kd.R_base ho21) hb); have n3_ := Aside0.mk (Kd.R_lower (Kd.R_new' (Kd.R_new' (Kd.R_new' ho21 (Kd.R_lt (by (with_reducible repeat (first | apply Kd.R_alloc | apply Kd.R_drewN | apply Kd.R_drew)); exact HO140.out))) (Kd.R_lt (by (with_reducible repeat (first | apply Kd.R_alloc | apply Kd.R_drewN | apply Kd.R_drew)); exact HO145.out))) (Kd.R_lt (by (with_reducible repeat (first | apply Kd.R_alloc | apply Kd.R_drewN | apply Kd.R_drew)); exact HO149.out))) (below_size (by repeat (first | (with_reducible first | exact HB.out | apply below_alloc | apply pw_below_drewN | apply below_drew1) | exact HB.out)))); have n4_ := Aside0.mk (below_step (by repeat (first | (with_reducible first | exact HB.out | apply below_alloc | apply pw_below_drewN | apply below_drew1) | exact HB.out)) hb); clear HO140; clear HO145; clear HO149; clear HB; have HO140 := n0_; have HO145 := n1_; have HO149 := n2_; have HO152 := n3_; have HB := n4_; clear n0_ n1_ n2_ n3_ n4_; clear hb ho21; obtain ⟨Ao22, co22, eo22⟩ := Kd.R_slice HO152.out; subst eo22) | ((with_reducible refine gate_callee (f := 21) rfl ?_); refine goesL_ (some 26) rfl rfl Try.func21 (by kernel_rfl) rfl #[.slice Ao22 y150.length co22, .int .i64 0, .int .i64 1] rfl (by (try simp only [List.map_toArray, List.map_cons, List.map_nil]); first | done | rfl | (simp only [List.length_drop, List.length_take]; rfl)) ?_; (with_reducible refine (ends_GetRow.calls k _ _ y150 0 1 t153 t154 t155 _ ?side1 ?side2 A4.out).mono ?_); (case side1 => repeat (first | exact (Kd.R_reads' HO152.out).2.2 | (with_reducible refine Kd.C_alloc ?_ _) | (with_reducible refine Kd.C_drewN ?_ _) | (with_reducible refine Kd.C_drew ?_))); (case side2 => exact (Kd.R_reads' HO152.out).2.1); rintro e w23 ⟨v156, rfl, ho0, hb⟩; refine ⟨_, rfl, ?_⟩; have n0_ := Aside0.mk (Kd.R_elder' (by (with_reducible repeat (first | apply Kd.R_alloc | apply Kd.R_drewN | apply Kd.R_drew)); exact HO140.out) (Kd.R_base ho0) hb); have n1_ := Aside0.mk (Kd.R_elder' (by (with_reducible repeat (first | apply Kd.R_alloc | apply Kd.R_drewN | apply Kd.R_drew)); exact HO145.out) (Kd.R_base ho0) hb); have n2_ := Aside0.mk (Kd.R_elder' (by (with_reducible repeat (first | apply Kd.R_alloc | apply Kd.R_drewN | apply Kd.R_drew)); exact HO149.out) (Kd.R_base ho0) hb); have n3_ := Aside0.mk (Kd.R_elder' (by (with_reducible repeat (first | apply Kd.R_alloc | apply Kd.R_drewN | apply Kd.R_drew)); exact HO152.out) (Kd.R_base ho0) hb); have n4_ := Aside0.mk (Kd.R_lower (Kd.R_new' (Kd.R_new' (Kd.R_new' (Kd.R_new' ho0 (Kd.R_lt (by (with_reducible repeat (first | apply Kd.R_alloc | apply Kd.R_drewN | apply Kd.R_drew)); exact HO140.out))) (Kd.R_lt (by (with_reducible repeat (first | apply Kd.R_alloc | apply Kd.R_drewN | apply Kd.R_drew)); exact HO145.out))) (Kd.R_lt (by (with_reducible repeat (first | apply Kd.R_alloc | apply Kd.R_drewN | apply Kd.R_drew)); exact HO149.out))) (Kd.R_lt (by (with_reducible repeat (first | apply Kd.R_alloc | apply Kd.R_drewN | apply Kd.R_drew)); exact HO152.out))) (below_size (by repeat (first | (with_reducible first | exact HB.out | apply below_alloc | apply pw_below_drewN | apply below_drew1) | exact HB.out)))); have n5_ := Aside0.mk (below_step (by repeat (first | (with_reducible first | exact HB.out | apply below_alloc | apply pw_below_drewN | apply below_drew1) | exact HB.out)) hb); clear HO140; clear HO145; clear HO149; clear HO152; clear HB; have HO140 := n0_; have HO145 := n1_; have HO149 := n2_; have HO152 := n3_; have HO157 := n4_; have HB := n5_; clear n0_ n1_ n2_ n3_ n4_ n5_; (try clear hb); (try clear hb2); (try clear hk); (try clear hi); (try clear ho0)) | ((with_reducible refine gate_dst (N := 34) rfl ?_); (try (refine gate_guard (by rfl) ?_; dsimp only)); refine Kd.R_lit (Kd.int .u8) _ 5 ?hg (N := 34) ?hd (xs := ([1, 2] : List Int)) (inner := [.int .u8 1, .int .u8 2]) (ok := fun _ => True) (okp := fun _ => True) ?hr ?hp (fun _ hk => hk) trivial (Below.refl _ _) (Nat.le_refl _) (by simp) ?_; (case hd => rfl); (case hg => rfl); (case hr => first | (go_simp; done) | (go_simp; rfl)); (case hp => exact (Reps.one (show Kd.M (Kd.int .u8) _ _ _ 1 [.int .u8 1] from rfl) (Reps.one (show Kd.M (Kd.int .u8) _ _ _ 2 [.int .u8 2] from rfl) (Reps.none _ _)))); intro v159 w24 ho25 hb hg_ hnew_; clear hg_ hnew_; (first | rw [← Ny158.out] at ho25 | (simp only [Int.reduceToNat] at ho25; rw [← Ny158.out] at ho25)); have n0_ := Aside0.mk (Kd.R_elder' (by (with_reducible repeat (first | apply Kd.R_alloc | apply Kd.R_drewN | apply Kd.R_drew)); exact HO140.out) (Kd.R_base ho25) hb); have n1_ := Aside0.mk (Kd.R_elder' (by (with_reducible repeat (first | apply Kd.R_alloc | apply Kd.R_drewN | apply Kd.R_drew)); exact HO145.out) (Kd.R_base ho25) hb); have n2_ := Aside0.mk (Kd.R_elder' (by (with_reducible repeat (first | apply Kd.R_alloc | apply Kd.R_drewN | apply Kd.R_drew)); exact HO149.out) (Kd.R_base ho25) hb); have n3_ := Aside0.mk (Kd.R_elder' (by (with_reducible repeat (first | apply Kd.R_alloc | apply Kd.R_drewN | apply Kd.R_drew)); exact HO152.out) (Kd.R_base ho25) hb); have n4_ := Aside0.mk (Kd.R_elder' (by (with_reducible repeat (first | apply Kd.R_alloc | apply Kd.R_drewN | apply Kd.R_drew)); exact HO157.out) (Kd.R_base ho25) hb); have n5_ := Aside0.mk (Kd.R_lower (Kd.R_new' (Kd.R_new' (Kd.R_new' (Kd.R_new' (Kd.R_new' ho25 (Kd.R_lt (by (with_reducible repeat (first | apply Kd.R_alloc | apply Kd.R_drewN | apply Kd.R_drew)); exact HO140.out))) (Kd.R_lt (by (with_reducible repeat (first | apply Kd.R_alloc | apply Kd.R_drewN | apply Kd.R_drew)); exact HO145.out))) (Kd.R_lt (by (with_reducible repeat (first | apply Kd.R_alloc | apply Kd.R_drewN | apply Kd.R_drew)); exact HO149.out))) (Kd.R_lt (by (with_reducible repeat (first | apply Kd.R_alloc | apply Kd.R_drewN | apply Kd.R_drew)); exact HO152.out))) (Kd.R_lt (by (with_reducible repeat (first | apply Kd.R_alloc | apply Kd.R_drewN | apply Kd.R_drew)); exact HO157.out))) (below_size (by repeat (first | (with_reducible first | exact HB.out | apply below_alloc | apply pw_below_drewN | apply below_drew1) | exact HB.out)))); have n6_ := Aside0.mk (below_step (by repeat (first | (with_reducible first | exact HB.out | apply below_alloc | apply pw_below_drewN | apply below_drew1) | exact HB.out)) hb); clear HO140; clear HO145; clear HO149; clear HO152; clear HO157; clear HB; have HO140 := n0_; have HO145 := n1_; have HO149 := n2_; have HO152 := n3_; have HO157 := n4_; have HO160 := n5_; have HB := n6_; clear n0_ n1_ n2_ n3_ n4_ n5_ n6_; clear hb ho25; obtain ⟨Ao26, co26, eo26⟩ := Kd.R_slice HO160.out; subst eo26) | (go_at_call 11; (with_reducible refine (garderoberef00_Same.calls k _ _ t137 _ _ y158 true _ ?side1 ?side2 ?side3 ?side4 A6.out).mono ?_); (case side1 => repeat (first | exact (Kd.R_reads' HO140.out).2.2 | (with_reducible refine Kd.C_alloc ?_ _) | (with_reducible refine Kd.C_drewN ?_ _) | (with_reducible refine Kd.C_drew ?_))); (case side2 => exact (Kd.R_reads' HO140.out).2.1); (case side3 => repeat (first | exact (Kd.R_reads' HO160.out).2.2 | (with_reducible refine Kd.C_alloc ?_ _) | (with_reducible refine Kd.C_drewN ?_ _) | (with_reducible refine Kd.C_drew ?_))); (case side4 => exact (Kd.R_reads' HO160.out).2.1); rintro e w' ⟨rfl, ⟨nd, rfl⟩⟩) | ((with_reducible refine gate_dst (N := 51) rfl ?_); (try (refine gate_guard (by rfl) ?_; dsimp only)); refine Kd.R_lit (Kd.int .u8) _ 5 ?hg (N := 51) ?hd (xs := ([0, 1, 97] : List Int)) (inner := [.int .u8 0, .int .u8 1, .int .u8 97]) (ok := fun _ => True) (okp := fun _ => True) ?hr ?hp (fun _ hk => hk) trivial (Below.refl _ _) (Nat.le_refl _) (by simp) ?_; (case hd => rfl); (case hg => rfl); (case hr => first | (go_simp; done) | (go_simp; rfl)); (case hp => exact (Reps.one (show Kd.M (Kd.int .u8) _ _ _ 0 [.int .u8 0] from rfl) (Reps.one (show Kd.M (Kd.int .u8) _ _ _ 1 [.int .u8 1] from rfl) (Reps.one (show Kd.M (Kd.int .u8) _ _ _ 97 [.int .u8 97] from rfl) (Reps.none _ _))))); intro v163 w27 ho28 hb hg_ hnew_; clear hg_ hnew_; (first | rw [← Ny162.out] at ho28 | (simp only [Int.reduceToNat] at ho28; rw [← Ny162.out] at ho28)); have n0_ := Aside0.mk (Kd.R_elder' (by (with_reducible repeat (first | apply Kd.R_alloc | apply Kd.R_drewN | apply Kd.R_drew)); exact HO140.out) (Kd.R_base ho28) hb); have n1_ := Aside0.mk (Kd.R_elder' (by (with_reducible repeat (first | apply Kd.R_alloc | apply Kd.R_drewN | apply Kd.R_drew)); exact HO145.out) (Kd.R_base ho28) hb); have n2_ := Aside0.mk (Kd.R_elder' (by (with_reducible repeat (first | apply Kd.R_alloc | apply Kd.R_drewN | apply Kd.R_drew)); exact HO149.out) (Kd.R_base ho28) hb); have n3_ := Aside0.mk (Kd.R_elder' (by (with_reducible repeat (first | apply Kd.R_alloc | apply Kd.R_drewN | apply Kd.R_drew)); exact HO152.out) (Kd.R_base ho28) hb); have n4_ := Aside0.mk (Kd.R_elder' (by (with_reducible repeat (first | apply Kd.R_alloc | apply Kd.R_drewN | apply Kd.R_drew)); exact HO157.out) (Kd.R_base ho28) hb); have n5_ := Aside0.mk (Kd.R_elder' (by (with_reducible repeat (first | apply Kd.R_alloc | apply Kd.R_drewN | apply Kd.R_drew)); exact HO160.out) (Kd.R_base ho28) hb); have n6_ := Aside0.mk (Kd.R_lower (Kd.R_new' (Kd.R_new' (Kd.R_new' (Kd.R_new' (Kd.R_new' (Kd.R_new' ho28 (Kd.R_lt (by (with_reducible repeat (first | apply Kd.R_alloc | apply Kd.R_drewN | apply Kd.R_drew)); exact HO140.out))) (Kd.R_lt (by (with_reducible repeat (first | apply Kd.R_alloc | apply Kd.R_drewN | apply Kd.R_drew)); exact HO145.out))) (Kd.R_lt (by (with_reducible repeat (first | apply Kd.R_alloc | apply Kd.R_drewN | apply Kd.R_drew)); exact HO149.out))) (Kd.R_lt (by (with_reducible repeat (first | apply Kd.R_alloc | apply Kd.R_drewN | apply Kd.R_drew)); exact HO152.out))) (Kd.R_lt (by (with_reducible repeat (first | apply Kd.R_alloc | apply Kd.R_drewN | apply Kd.R_drew)); exact HO157.out))) (Kd.R_lt (by (with_reducible repeat (first | apply Kd.R_alloc | apply Kd.R_drewN | apply Kd.R_drew)); exact HO160.out))) (below_size (by repeat (first | (with_reducible first | exact HB.out | apply below_alloc | apply pw_below_drewN | apply below_drew1) | exact HB.out)))); have n7_ := Aside0.mk (below_step (by repeat (first | (with_reducible first | exact HB.out | apply below_alloc | apply pw_below_drewN | apply below_drew1) | exact HB.out)) hb); clear HO140; clear HO145; clear HO149; clear HO152; clear HO157; clear HO160; clear HB; have HO140 := n0_; have HO145 := n1_; have HO149 := n2_; have HO152 := n3_; have HO157 := n4_; have HO160 := n5_; have HO164 := n6_; have HB := n7_; clear n0_ n1_ n2_ n3_ n4_ n5_ n6_ n7_; clear hb ho28; obtain ⟨Ao29, co29, eo29⟩ := Kd.R_slice HO149.out; subst eo29; obtain ⟨Ao30, co30, eo30⟩ := Kd.R_slice HO164.out; subst eo30) | (go_at_call 11; (with_reducible refine (garderoberef00_Same.calls k _ _ t146 _ _ y162 true _ ?side1 ?side2 ?side3 ?side4 A11.out).mono ?_); (case side1 => repeat (first | exact (Kd.R_reads' HO149.out).2.2 | (with_reducible refine Kd.C_alloc ?_ _) | (with_reducible refine Kd.C_drewN ?_ _) | (with_reducible refine Kd.C_drew ?_))); (case side2 => exact (Kd.R_reads' HO149.out).2.1); (case side3 => repeat (first | exact (Kd.R_reads' HO164.out).2.2 | (with_reducible refine Kd.C_alloc ?_ _) | (with_reducible refine Kd.C_drewN ?_ _) | (with_reducible refine Kd.C_drew ?_))); (case side4 => exact (Kd.R_reads' HO164.out).2.1); rintro e w' ⟨rfl, ⟨nd, rfl⟩⟩))
              go_ret
              exact ⟨by first | rfl | (simp [errW_none, errW_some] <;> rfl) | (simp [*, errW_none, errW_some] <;> rfl), by repeat (first | (with_reducible first | exact HB.out | apply below_alloc | apply pw_below_drewN | apply below_drew1) | exact HB.out)⟩
            · replace c12 := Bool.eq_false_iff.mpr c12
              subst c12
              have H1 : (none) = some r := by rw [if_neg (show ¬ (false = true) by decide)] at H; exact H
              clear H
              have H := H1
              clear H1
              exact absurd H (by simp)
          · rw [if_neg c10] at H
            exact absurd H (by simp)
        · rw [if_neg c9] at H
          exact absurd H (by simp)
      · rw [if_neg c8] at H
        exact absurd H (by simp)
    · replace c7 := Bool.eq_false_iff.mpr c7
      subst c7
      have H1 : (none) = some r := by rw [if_neg (show ¬ (false = true) by decide)] at H; exact H
      clear H
      have H := H1
      clear H1
      exact absurd H (by simp)
  · rw [if_neg c5] at H
    exact absurd H (by simp)

/-! ### garderoberef00_Wide: function 13 -/
mutual
def garderoberef00_Wide.l0 : Nat → List Int → List Int → Int → Option (List Int)
  | 0, _, _, _ => none
  | k + 1, x0, x3, x4 => if x4 < (x0.length : Int) then (if 0 ≤ x4 then (if x4 < (x3.length : Int) then (garderoberef00_Wide.l0 k x0 (x3.set (x4 : Int).toNat (rd x0 x4)) (wrap64 (x4 + 1))) else (none)) else (none)) else (garderoberef00_Wide.l1 k x0 x3 (x0.length : Int))
def garderoberef00_Wide.l1 : Nat → List Int → List Int → Int → Option (List Int)
  | 0, _, _, _ => none
  | k + 1, x0, x3, x5 => if x5 < (x3.length : Int) then (if 0 ≤ x5 then (garderoberef00_Wide.l1 k x0 (x3.set (x5 : Int).toNat 7) (wrap64 (x5 + 1))) else (none)) else (if 0 ≤ (x0.length : Int) then (if (x0.length : Int) ≤ (x3.length : Int) then (some (x3.take ((x0.length : Int) : Int).toNat)) else (none)) else (none))
end
def garderoberef00_Wide.f (_k : Nat) (l0 : List Int) : Option (List Int) := if l0.length ≤ 140737488355328 then some l0 else none
theorem garderoberef00_Wide.mono_l : ∀ k, (∀ y0 y1 y2, LeO (garderoberef00_Wide.l0 k y0 y1 y2) (garderoberef00_Wide.l0 (k + 1) y0 y1 y2)) ∧ (∀ y0 y1 y2, LeO (garderoberef00_Wide.l1 k y0 y1 y2) (garderoberef00_Wide.l1 (k + 1) y0 y1 y2))
  | 0 => ⟨fun _ _ _ r h => by simp [garderoberef00_Wide.l0] at h, fun _ _ _ r h => by simp [garderoberef00_Wide.l1] at h⟩
  | k + 1 => by
    obtain ⟨ih0, ih1⟩ := garderoberef00_Wide.mono_l k
    refine ⟨?_, ?_⟩
    · intro y0 y1 y2
      unfold garderoberef00_Wide.l0
      repeat' first
      | (with_reducible exact ih0 _ _ _)
      | (with_reducible exact ih1 _ _ _)
      | (with_reducible exact LeO.refl _)
      | (with_reducible exact LeO.none _)
      | (with_reducible refine LeO.ite ?_ ?_)
      | (with_reducible refine LeO.bind ?_ (fun _ => ?_))
      | exact ih0 _ _ _
      | exact ih1 _ _ _
      | exact LeO.none _
      | refine LeO.ite ?_ ?_
      | refine LeO.bind ?_ (fun _ => ?_)
    · intro y0 y1 y2
      unfold garderoberef00_Wide.l1
      repeat' first
      | (with_reducible exact ih0 _ _ _)
      | (with_reducible exact ih1 _ _ _)
      | (with_reducible exact LeO.refl _)
      | (with_reducible exact LeO.none _)
      | (with_reducible refine LeO.ite ?_ ?_)
      | (with_reducible refine LeO.bind ?_ (fun _ => ?_))
      | exact ih0 _ _ _
      | exact ih1 _ _ _
      | exact LeO.none _
      | refine LeO.ite ?_ ?_
      | refine LeO.bind ?_ (fun _ => ?_)
theorem garderoberef00_Wide.mono : ∀ a0 k, LeO (garderoberef00_Wide.f k a0) (garderoberef00_Wide.f (k + 1) a0) := by
  intro a0 k
  obtain ⟨ih0, ih1⟩ := garderoberef00_Wide.mono_l k
  unfold garderoberef00_Wide.f
  repeat' first
      | (with_reducible exact ih0 _ _ _)
      | (with_reducible exact ih1 _ _ _)
      | (with_reducible exact LeO.refl _)
      | (with_reducible exact LeO.none _)
      | (with_reducible refine LeO.ite ?_ ?_)
      | (with_reducible refine LeO.bind ?_ (fun _ => ?_))
      | exact ih0 _ _ _
      | exact ih1 _ _ _
      | exact LeO.none _
      | refine LeO.ite ?_ ?_
      | refine LeO.bind ?_ (fun _ => ?_)
set_option maxHeartbeats 8000000 in
set_option maxRecDepth 100000 in
theorem garderoberef00_Wide.calls (k : Nat) (A0 : Option Addr) (c0 : Nat) (l0 : List Int) (r : List Int) (w : World) (hr0 : Kd.C (Kd.int .u8) w A0 l0.length l0) (hc0 : l0.length ≤ c0) (h : garderoberef00_Wide.f k l0 = some r) :
    Calls Try.prog 13 #[.slice A0 l0.length c0] w fun e w' => ∃ v0_ : Value, e = .returned (v0_) ∧ Kd.R (Kd.int .u8) 5 w' w.heap.size (fun _ => True) v0_ r ∧ Kd.R (Kd.int .u8) 5 w' w.heap.size (fun _ => True) (Go.Proofs.YtaegfbfmniohaaaW.Mine.longV v0_) (r ++ [7, 7, 7]) ∧ Below w.heap.size w w' := by
  have hlen : l0.length ≤ 140737488355328 := by
    unfold garderoberef00_Wide.f at h
    split at h
    · assumption
    · cases h
  have hr_ : l0 = r := by
    unfold garderoberef00_Wide.f at h
    rw [if_pos hlen] at h
    exact Option.some.inj h
  subst hr_
  clear h
  have HR0 := Aside0.mk hr0
  have HC0 := Aside0.mk hc0
  have HL := Aside0.mk hlen
  clear hr0 hc0
  have HB := Aside0.mk (Below.refl w.heap.size w)
  obtain ⟨ji2, hji2⟩ : ∃ j_ : Int, (wrap64 ((l0.length : Int) + 3)) = j_ := ⟨_, rfl⟩
  have hji2w : (IntKind.i64.wrap ((l0.length : Int) + 3)) = ji2 := (i64_w _).trans hji2
  have hj3 : ji2 = ((l0.length + 3 : Nat) : Int) := by rw [← hji2]; unfold wrap64; omega
  have HJ3 := Aside0.mk hj3
  obtain ⟨m3, hm3_⟩ : ∃ m_ : Nat, m_ = l0.length + 3 := ⟨_, rfl⟩
  have HM3 := Aside0.mk hm3_
  clear hm3_
  have c3 : 0 ≤ ji2 := by omega
  have c4 : ji2.toNat ≤ 281474976710656 := by omega
  clear hj3 hlen
  have c3b0 := eq_true c3
  have c3b1 : decide (0 ≤ (ji2)) = true := decide_eq_true c3
  have c4b0 := eq_true c4
  have c4b1 : decide ((ji2 : Int).toNat ≤ 281474976710656) = true := decide_eq_true c4
  clear c3 c4
  obtain ⟨y166, hy166⟩ : ∃ y_ : List Int, y_ = (List.replicate (ji2 : Int).toNat 0) := ⟨_, rfl⟩
  have Ny166 := Aside0.mk hy166
  clear hy166
  go_enter Try.func13, Try.ntmps13
  go_wp2_with (first | ((with_reducible refine gate_dst (N := 9) rfl ?_); refine Kd.R_make (Kd.int .u8) _ 5 rfl (N := 9) rfl 23 _ _ rfl ji2 rfl rfl Try.underlying23 (.int .u8 0) 1 info5 rfl (by decide) (by omega) 0 (ok := fun _ => True) (okp := fun _ => True) rfl (fun _ hk => hk) trivial (of_decide_eq_true (by first | (with_reducible assumption) | assumption)) (Nat.le_trans (Nat.mul_le_mul_right _ (of_decide_eq_true (by first | (with_reducible assumption) | assumption) : ji2.toNat ≤ 281474976710656)) (by omega)) (Below.refl _ _) (Nat.le_refl _) ?_; intro v167 w5 ho6 hb hg_ hnew_; clear hg_ hnew_; (first | rw [← Ny166.out] at ho6 | (simp only [Int.reduceToNat] at ho6; rw [← Ny166.out] at ho6)); have n0_ := Aside0.mk (Kd.R_lower ho6 (below_size (by repeat (first | (with_reducible first | exact HB.out | apply below_alloc | apply pw_below_drewN | apply below_drew1) | exact HB.out)))); have n1_ := Aside0.mk (below_step (by repeat (first | (with_reducible first | exact HB.out | apply below_alloc | apply pw_below_drewN | apply below_drew1) | exact HB.out)) hb); clear HB; have HO168 := n0_; have HB := n1_; clear n0_ n1_; clear hb ho6))
  have hy0_ : y166 = Go.Proofs.YtaegfbfmniohaaaW.Mine.wideA l0 0 := by rw [Ny166.out, Go.Proofs.YtaegfbfmniohaaaW.Mine.wideA_zero, HJ3.out]; rfl
  have h0_ := HO168.out
  rw [hy0_] at h0_
  obtain ⟨A_, co_, e_⟩ := Kd.R_slice h0_
  rw [Go.Proofs.YtaegfbfmniohaaaW.Mine.wideA_length l0 0 (by omega), ← HM3.out] at e_
  subst e_
  have HO_9 := Aside0.mk h0_
  clear h0_ hy0_ HO168
  try clear c3b0
  try clear c3b1
  try clear c4b0
  try clear c4b1
  go_loopg [4] l0.length (fun kq v4 w' => ∃ (x4_1 : Int), v4 = .int .i64 x4_1 ∧ Aside0 (0 ≤ x4_1 ∧ (kq : Int) + x4_1 = l0.length) ∧ Aside0 (Kd.R (Kd.int .u8) 5 w' w.heap.size (fun _ => True) (.slice A_ m3 co_) (Go.Proofs.YtaegfbfmniohaaaW.Mine.wideA l0 x4_1.toNat)) ∧ Aside0 (Below w.heap.size w w'))
  case atStart => exact ⟨0, (by first | rfl | (simp; done) | (simp [*]; done)), ⟨by omega⟩, ⟨by (with_reducible repeat (first | apply Kd.R_alloc | apply Kd.R_drewN | apply Kd.R_drew)); exact HO_9.out⟩, ⟨by repeat (first | (with_reducible first | exact HB.out | apply below_alloc | apply pw_below_drewN | apply below_drew1) | exact HB.out)⟩⟩
  case round =>
    obtain ⟨x4_1, rfl, HA, HO_3, HB⟩ := hrel
    obtain ⟨x3_1, hx3_⟩ : ∃ x_ : List Int, x_ = Go.Proofs.YtaegfbfmniohaaaW.Mine.wideA l0 x4_1.toNat := ⟨_, rfl⟩
    rw [← hx3_] at HO_3
    have HLN : Aside0 (x3_1.length = m3) := ⟨by rw [hx3_, Go.Proofs.YtaegfbfmniohaaaW.Mine.wideA_length, HM3.out]; have := HA.out; omega⟩
    have HX3 := Aside0.mk hx3_
    clear hx3_
    by_cases c4 : x4_1 < (l0.length : Int)
    · have c4b0 : decide (x4_1 < (l0.length : Int)) = true := decide_eq_true c4
      have c4_ := Aside0.mk c4
      clear c4
      cases gk with
      | zero => exact absurd HA.out.2 (by have := c4_.out; omega)
      | succ k1 =>
          have hw_ : wrap64 (x4_1 + 1) = x4_1 + 1 := by
            have := HL.out
            have := HA.out
            unfold wrap64
            omega
          have HWW := Aside0.mk hw_
          clear hw_
          have p10 : 0 ≤ x4_1 := HA.out.1
          obtain ⟨ad169, e169, hx169_0⟩ := Kd.at_int HR0.out x4_1 p10 c4_.out
          cases e169
          have q169 := eq_true c4_.out
          replace hx169_0 := (HB.out.cell (World.block_lt_of_cell? w _ hx169_0)).trans hx169_0
          obtain ⟨go10, co10, eo10, gb10, gl10, cl10, HG10⟩ := Kd.R_form HO_3.out (by rw [HLN.out, HM3.out]; omega)
          injection eo10 with ea_ en_ ec_
          (first | subst ea_ | (injection ea_ with ea_; subst ea_))
          clear ec_ en_
          have GB10 := Aside0.mk gb10
          clear gb10 gl10 HG10
          obtain ⟨hx10_0, hf10_0⟩ := Kd.R_celln 0 HO_3.out x4_1 p10 (by have h_ := HM3.out; have h2_ := c4_.out; have h3_ := HA.out; omega)
          replace p10 := eq_true p10
          have q10 : (x4_1 < (m3 : Int)) = True := eq_true (by have h_ := HM3.out; have h2_ := c4_.out; have h3_ := HA.out; omega)
          have HP11 := Kd.R_putg HO_3.out x4_1 (rd l0 x4_1)
          go_wp2_with (first | ((with_reducible refine gate_store (t := 5) (p := 22) rfl ?_); refine store_event (t := 5) (p := 22) (v := ?vo_w22) (w1 := (wr.setCell ⟨go10, (x4_1 : Int).toNat, none⟩ (.int .u8 (rd l0 x4_1)))) ?hg ?ho ?hn ?hr ?_; (case ho => rfl); (case hg => rfl); (case hn => rfl); (case hr => first | (go_simp; done) | (go_simp; rfl)); intro w12 hw; have hg : wr.grownBy w12 (some go10) := (by rw [hw]; exact HP11.2); have hp_ : Kd.R (Kd.int .u8) 5 w12 w.heap.size (fun _ => True) (.slice (some ⟨go10, 0, none⟩) m3 co_) (x3_1.set (x4_1 : Int).toNat (rd l0 x4_1)) := (by rw [hw]; exact HP11.1); clear HP11; have n0_ := Aside0.mk (hp_); have n1_ := Aside0.mk ((by rw [hw]; exact below_set (HB.out) GB10.out : Below w.heap.size w w12)); clear HO_3; clear HB; have HO_3 := n0_; have HB := n1_; clear n0_ n1_; clear hg hw hp_))

          go_roundg k1
          case measure => omega
          case rel =>
            refine ⟨x4_1 + 1, ?_, ⟨by have := HA.out; omega⟩, ⟨?_⟩, ⟨by repeat (first | (with_reducible first | exact HB.out | apply below_alloc | apply pw_below_drewN | apply below_drew1) | exact HB.out)⟩⟩
            · first | (rw [HWW.out]; done) | (simp only [HWW.out]; done) | (simp [HWW.out]; done) | (rw [← HWW.out])
            · have h8_ := Go.Proofs.YtaegfbfmniohaaaW.Mine.wideA_succ l0 x4_1.toNat (by have := c4_.out; have := HA.out; omega)
              have h7_ : ((x4_1.toNat : Nat) : Int) = x4_1 := Int.toNat_of_nonneg HA.out.1
              rw [← HX3.out, h7_, show x4_1.toNat + 1 = (x4_1 + 1).toNat from by have := HA.out; omega] at h8_
              have h9_ := HO_3.out
              rw [h8_] at h9_
              (with_reducible repeat (first | apply Kd.R_alloc | apply Kd.R_drewN | apply Kd.R_drew))
              exact h9_
    · have c4b0 : decide (x4_1 < (l0.length : Int)) = false := decide_eq_false c4
      have c4_ := Aside0.mk c4
      clear c4
      have h0_ := HO_3.out
      rw [HX3.out, show x4_1.toNat = l0.length from by have := c4_.out; have := HA.out; omega, Go.Proofs.YtaegfbfmniohaaaW.Mine.wideA_all] at h0_
      have HO_9 := Aside0.mk h0_
      clear h0_ HO_3
      go_wp2
      go_loopg [5] 3 (fun kq v5 w' => ∃ (x5_2 : Int), v5 = .int .i64 x5_2 ∧ Aside0 ((l0.length : Int) ≤ x5_2 ∧ (kq : Int) + x5_2 = (l0.length : Int) + 3) ∧ Aside0 (Kd.R (Kd.int .u8) 5 w' w.heap.size (fun _ => True) (.slice A_ m3 co_) (Go.Proofs.YtaegfbfmniohaaaW.Mine.wideB l0 x5_2.toNat)) ∧ Aside0 (Below w.heap.size w w'))
      case atStart => exact ⟨(l0.length : Int), (by first | rfl | (simp; done) | (simp [*]; done)), ⟨by omega⟩, ⟨by rw [Int.toNat_natCast]; exact (by (with_reducible repeat (first | apply Kd.R_alloc | apply Kd.R_drewN | apply Kd.R_drew)); exact HO_9.out)⟩, ⟨by repeat (first | (with_reducible first | exact HB.out | apply below_alloc | apply pw_below_drewN | apply below_drew1) | exact HB.out)⟩⟩
      case round =>
        clear HX3 HLN HA
        obtain ⟨x5_2, rfl, HA, HO_3, HB⟩ := hrel
        obtain ⟨x3_1, hx3_⟩ : ∃ x_ : List Int, x_ = Go.Proofs.YtaegfbfmniohaaaW.Mine.wideB l0 x5_2.toNat := ⟨_, rfl⟩
        rw [← hx3_] at HO_3
        have HLN : Aside0 (x3_1.length = m3) := ⟨by rw [hx3_, HM3.out, Go.Proofs.YtaegfbfmniohaaaW.Mine.wideB_length] <;> (have := HA.out; omega)⟩
        have HX3 := Aside0.mk hx3_
        clear hx3_
        by_cases c5 : x5_2 < (m3 : Int)
        · have c5b0 : decide (x5_2 < (m3 : Int)) = true := decide_eq_true c5
          clear c4_
          have c4_ := Aside0.mk c5
          clear c5
          cases gk with
          | zero => exact absurd HA.out.2 (by have := c4_.out; have := HM3.out; omega)
          | succ k1 =>
          have hw_ : wrap64 (x5_2 + 1) = x5_2 + 1 := by
            have := HL.out
            have := HA.out
            unfold wrap64
            omega
          have HWW := Aside0.mk hw_
          clear hw_
          have p10 : 0 ≤ x5_2 := by have := HA.out; omega
          obtain ⟨go10, co10, eo10, gb10, gl10, cl10, HG10⟩ := Kd.R_form HO_3.out (by rw [HLN.out, HM3.out]; omega)
          injection eo10 with ea_ en_ ec_
          (first | subst ea_ | (injection ea_ with ea_; subst ea_))
          clear ec_ en_
          have GB10 := Aside0.mk gb10
          clear gb10 gl10 HG10
          obtain ⟨hx10_0, hf10_0⟩ := Kd.R_celln 0 HO_3.out x5_2 p10 (by have h_ := HM3.out; have h2_ := c4_.out; have h3_ := HA.out; omega)
          replace p10 := eq_true p10
          have q10 : (x5_2 < (m3 : Int)) = True := eq_true (by have h_ := HM3.out; have h2_ := c4_.out; have h3_ := HA.out; omega)
          have HP11 := Kd.R_putg HO_3.out x5_2 (7)
          go_wp2_with (first | ((with_reducible refine gate_store (t := 5) (p := 33) rfl ?_); refine store_event (t := 5) (p := 33) (v := ?vo_w33) (w1 := (wr.setCell ⟨go10, (x5_2 : Int).toNat, none⟩ (.int .u8 (7)))) ?hg ?ho ?hn ?hr ?_; (case ho => rfl); (case hg => rfl); (case hn => rfl); (case hr => first | (go_simp; done) | (go_simp; rfl)); intro w12 hw; have hg : wr.grownBy w12 (some go10) := (by rw [hw]; exact HP11.2); have hp_ : Kd.R (Kd.int .u8) 5 w12 w.heap.size (fun _ => True) (.slice (some ⟨go10, 0, none⟩) m3 co_) (x3_1.set (x5_2 : Int).toNat (7)) := (by rw [hw]; exact HP11.1); clear HP11; have n0_ := Aside0.mk (hp_); have n1_ := Aside0.mk ((by rw [hw]; exact below_set (HB.out) GB10.out : Below w.heap.size w w12)); clear HO_3; clear HB; have HO_3 := n0_; have HB := n1_; clear n0_ n1_; clear hg hw hp_))

          go_roundg k1
          case measure => omega
          case rel =>
            refine ⟨x5_2 + 1, ?_, ⟨by have := HA.out; omega⟩, ⟨?_⟩, ⟨by repeat (first | (with_reducible first | exact HB.out | apply below_alloc | apply pw_below_drewN | apply below_drew1) | exact HB.out)⟩⟩
            · first | (rw [HWW.out]; done) | (simp only [HWW.out]; done) | (simp [HWW.out]; done) | (rw [← HWW.out])
            · have h8_ := Go.Proofs.YtaegfbfmniohaaaW.Mine.wideB_succ l0 x5_2.toNat (by have := HA.out; omega) (by have := c4_.out; have := HA.out; have := HM3.out; omega)
              rw [← HX3.out, show x5_2.toNat + 1 = (x5_2 + 1).toNat from by have := HA.out; omega] at h8_
              have h9_ := HO_3.out
              rw [h8_] at h9_
              (with_reducible repeat (first | apply Kd.R_alloc | apply Kd.R_drewN | apply Kd.R_drew))
              exact h9_
        · have c5b0 : decide (x5_2 < (m3 : Int)) = false := decide_eq_false c5
          have h0_ := HO_3.out
          rw [HX3.out, show x5_2.toNat = l0.length + 3 from by have := HA.out; have := HM3.out; omega, Go.Proofs.YtaegfbfmniohaaaW.Mine.wideB_all] at h0_
          obtain ⟨i0_, hi0_, _, hsz0_, _⟩ := info_parts info5
          have hcc_ := (Kd.R_reads' h0_).2.1
          have hcut := cut_to (P := Try.prog) 23 5 .i64 Try.underlying23 hi0_ A_ m3 co_ (l0.length : Int) (by omega) (by have := HM3.out; omega) hcc_
          have hr_ := Kd.R_take (m := ((l0.length : Int) : Int).toNat) h0_ (by simp)
          have ht_ : (l0 ++ [7, 7, 7]).take ((l0.length : Int) : Int).toNat = l0 := by rw [Int.toNat_natCast, List.take_left]
          rw [ht_] at hr_
          simp only [Int.toNat_natCast] at hcut hr_
          have HO_8 := Aside0.mk hr_
          rw [HM3.out] at h0_
          have HO_7 := Aside0.mk h0_
          clear hr_ h0_ ht_ hi0_ hsz0_ hcc_ c5
          have c6b1 : decide (0 ≤ (l0.length : Int)) = true := decide_eq_true (by omega)
          have c7b1 : decide ((l0.length : Int) ≤ (m3 : Int)) = true := decide_eq_true (by have := HM3.out; omega)
          have c8b1 := eq_true (show (l0.length : Int) ≤ (m3 : Int) by have := HM3.out; omega)
          go_wp2
          go_ret
          refine ⟨_, rfl, by (with_reducible repeat (first | apply Kd.R_alloc | apply Kd.R_drewN | apply Kd.R_drew)); exact HO_8.out, ?_, by repeat (first | (with_reducible first | exact HB.out | apply below_alloc | apply pw_below_drewN | apply below_drew1) | exact HB.out)⟩
          show Kd.R (Kd.int .u8) 5 _ _ _ (.slice A_ (l0.length + 3) co_) _
          (with_reducible repeat (first | apply Kd.R_alloc | apply Kd.R_drewN | apply Kd.R_drew)); exact HO_7.out

/-! ### garderoberef00_Left: function 18 -/
def garderoberef00_Left.l0 : Nat → List Int → List Int → Int → Option (Bool)
  | 0, _, _, _ => none
  | k + 1, x0, x1, x5 => if x5 < (x0.length : Int) then (if 0 ≤ x5 then (if x5 < (x1.length : Int) then (if (rd x0 x5) = (rd x1 x5) then (garderoberef00_Left.l0 k x0 x1 (wrap64 (x5 + 1))) else (some false)) else (none)) else (none)) else (some true)
def garderoberef00_Left.f (_k : Nat) (l0 : List Int) (l1 : List Int) : Option (Bool) := if l0 = l1 ∧ l0.length ≤ 140737488355328 then some true else none
theorem garderoberef00_Left.mono_l : ∀ k, (∀ y0 y1 y2, LeO (garderoberef00_Left.l0 k y0 y1 y2) (garderoberef00_Left.l0 (k + 1) y0 y1 y2))
  | 0 => fun _ _ _ r h => by simp [garderoberef00_Left.l0] at h
  | k + 1 => by
    have ih0 := garderoberef00_Left.mono_l k
    · intro y0 y1 y2
      unfold garderoberef00_Left.l0
      repeat' first
      | (with_reducible exact ih0 _ _ _)
      | (with_reducible exact LeO.refl _)
      | (with_reducible exact LeO.none _)
      | (with_reducible refine LeO.ite ?_ ?_)
      | (with_reducible refine LeO.bind ?_ (fun _ => ?_))
      | exact ih0 _ _ _
      | exact LeO.none _
      | refine LeO.ite ?_ ?_
      | refine LeO.bind ?_ (fun _ => ?_)
theorem garderoberef00_Left.mono : ∀ a0 a1 k, LeO (garderoberef00_Left.f k a0 a1) (garderoberef00_Left.f (k + 1) a0 a1) := by
  intro a0 a1 k
  have ih0 := garderoberef00_Left.mono_l k
  unfold garderoberef00_Left.f
  repeat' first
      | (with_reducible exact ih0 _ _ _)
      | (with_reducible exact LeO.refl _)
      | (with_reducible exact LeO.none _)
      | (with_reducible refine LeO.ite ?_ ?_)
      | (with_reducible refine LeO.bind ?_ (fun _ => ?_))
      | exact ih0 _ _ _
      | exact LeO.none _
      | refine LeO.ite ?_ ?_
      | refine LeO.bind ?_ (fun _ => ?_)
set_option maxHeartbeats 8000000 in
set_option maxRecDepth 100000 in
theorem garderoberef00_Left.calls (k : Nat) (A0 : Option Addr) (c0 : Nat) (l0 : List Int) (A1 : Option Addr) (c1 : Nat) (l1 : List Int) (r : Bool) (w : World) (hr0 : Kd.C (Kd.int .u8) w A0 l0.length l0) (hc0 : l0.length ≤ c0) (hr1 : Kd.C (Kd.int .u8) w A1 l1.length l1) (hc1 : l1.length ≤ c1) (hlong : (Kd.int .u8).C w A0 (l0.length + 3) (l0 ++ [7, 7, 7])) (hc3 : l0.length + 3 ≤ c0) (h : garderoberef00_Left.f k l0 l1 = some r) :
    Calls Try.prog 18 #[.slice A0 l0.length c0, .slice A1 l1.length c1] w fun e w' => e = .returned (.bool r) ∧ Drawn0 w w' := by
  have hall_ : l0 = l1 ∧ l0.length ≤ 140737488355328 := by
    unfold garderoberef00_Left.f at h
    split at h
    · assumption
    · cases h
  have hr_ : r = true := by
    unfold garderoberef00_Left.f at h
    rw [if_pos hall_] at h
    exact (Option.some.inj h).symm
  subst hr_
  obtain ⟨rfl, hlen⟩ := hall_
  clear h
  have key : ∀ d i : Nat, i + d = l0.length → garderoberef00_Same.l0 (d + 1) l0 l0 (i : Int) = some true := by
    intro d
    induction d with
    | zero =>
      intro i hi
      rw [garderoberef00_Same.l0, if_neg (by omega)]
    | succ d ih =>
      intro i hi
      rw [garderoberef00_Same.l0, if_pos (by omega), if_pos (by omega), if_pos (by omega), if_pos rfl, show wrap64 ((i : Int) + 1) = ((i + 1 : Nat) : Int) from by unfold wrap64; omega]
      exact ih (i + 1) (by omega)
  have hsame : garderoberef00_Same.f (l0.length + 1) l0 l0 = some true := by
    unfold garderoberef00_Same.f
    rw [if_pos rfl]
    exact key l0.length 0 (by omega)
  clear key
  have HS := Aside0.mk hsame
  have HR0 := Aside0.mk hr0
  have HC0 := Aside0.mk hc0
  have HR1 := Aside0.mk hr1
  have HC1 := Aside0.mk hc1
  have HL := Aside0.mk hlen
  have HLG := Aside0.mk hlong
  have HL3 := Aside0.mk hc3
  obtain ⟨m3, hm3_⟩ : ∃ m_ : Nat, m_ = l0.length + 3 := ⟨_, rfl⟩
  obtain ⟨i0_, hi0_, _, hsz0_, _⟩ := info_parts info5
  have hcut : ∀ W : World, (Instr.slice 23 (.slice A0 l0.length c0) none (some (.int .i64 (m3 : Int))) (some (.int .i64 (m3 : Int)))).run Try.prog W = .ok (.slice A0 m3 m3) W := fun W => by
    have h_ := Go.Proofs.YtaegfbfmniohaaaW.Mine.upto3_of 23 5 .i64 .i64 Try.underlying23 hi0_ hsz0_ A0 l0.length c0 (m3 : Int) (by omega) (by omega) W
    simpa using h_
  clear hsame hr0 hc0 hr1 hc1 hlong hi0_ hsz0_
  have hji2 : (wrap64 ((l0.length : Int) + 3)) = (m3 : Int) := by unfold wrap64; omega
  have hji2w : (IntKind.i64.wrap ((l0.length : Int) + 3)) = (m3 : Int) := (i64_w _).trans hji2
  have c1b0 : decide ((c0 : Int) < (m3 : Int)) = false := decide_eq_false (by omega)
  have c1b2 : decide (c0 < m3) = false := decide_eq_false (by omega)
  have HM3 := Aside0.mk hm3_
  clear hlen hc3 hm3_
  go_enter Try.func18, Try.ntmps18
  go_wp2_with (first | (go_at_call 11; (with_reducible refine (garderoberef00_Same.calls (l0.length + 1) _ _ l0 _ _ l0 true _ ?side1 ?side2 ?side3 ?side4 HS.out).mono ?_); (case side1 => repeat (first | exact HR0.out | (with_reducible refine Kd.C_alloc ?_ _) | (with_reducible refine Kd.C_drewN ?_ _) | (with_reducible refine Kd.C_drew ?_))); (case side2 => exact HC0.out); (case side3 => repeat (first | exact HR1.out | (with_reducible refine Kd.C_alloc ?_ _) | (with_reducible refine Kd.C_drewN ?_ _) | (with_reducible refine Kd.C_drew ?_))); (case side4 => exact HC1.out); rintro e w' ⟨rfl, ⟨nd, rfl⟩⟩))
  go_loopg [6] 3 (fun kq v6 w' => ∃ (x6_2 : Int), v6 = .int .i64 x6_2 ∧ Aside0 ((l0.length : Int) ≤ x6_2 ∧ (kq : Int) + x6_2 = (l0.length : Int) + 3) ∧ Drawn0 w w')
  case atStart => exact ⟨(l0.length : Int), (by first | rfl | (simp; done) | (simp [*]; done)), ⟨by omega⟩, by first | exact ⟨_, rfl⟩ | (repeat (first | exact Drawn0.refl _ | apply Drawn0.step))⟩
  case round =>
    obtain ⟨x6_2, rfl, HA, ⟨nd2, rfl⟩⟩ := hrel
    by_cases c5 : x6_2 < (m3 : Int)
    · have c5b0 : decide (x6_2 < (m3 : Int)) = true := decide_eq_true c5
      have c5_ := Aside0.mk c5
      clear c5
      cases gk with
      | zero => exact absurd HA.out.2 (by have := c5_.out; have := HM3.out; omega)
      | succ k1 =>
        have hw_ : wrap64 (x6_2 + 1) = x6_2 + 1 := by
          have := HL.out
          have := HA.out
          unfold wrap64
          omega
        have HWW := Aside0.mk hw_
        clear hw_
        have p10 : 0 ≤ x6_2 := by have := HA.out; omega
        obtain ⟨ad169, e169, hx169_0⟩ := Kd.at_int HLG.out x6_2 p10 (by have := c5_.out; have := HM3.out; omega)
        have h7_ := Go.Proofs.YtaegfbfmniohaaaW.Mine.long_at l0 x6_2.toNat (by have := HA.out; omega) (by have := c5_.out; have := HM3.out; omega)
        rw [Int.toNat_of_nonneg p10] at h7_
        rw [h7_] at hx169_0
        cases e169
        (try simp only [add_plain] at hx169_0)
        replace p10 := eq_true p10
        have q10 := eq_true c5_.out
        go_wp2
        go_roundg k1
        case measure => omega
        case rel =>
          refine ⟨x6_2 + 1, ?_, ⟨by have := HA.out; omega⟩, ?_⟩
          · first | (rw [HWW.out]; done) | (simp only [HWW.out]; done) | (simp [HWW.out]; done) | (rw [← HWW.out])
          · first | exact ⟨_, rfl⟩ | (repeat (first | exact Drawn0.refl _ | apply Drawn0.step))
    · have c5b0 : decide (x6_2 < (m3 : Int)) = false := decide_eq_false c5
      clear c5
      go_wp2
      go_ret
      exact ⟨rfl, by first | exact ⟨_, rfl⟩ | (repeat (first | exact Drawn0.refl _ | apply Drawn0.step))⟩

end Go.Proofs.Ytaegfbfmniohaaa.PEndsRows
