-- laid by fake.py, a program of this session's, over the kit's print
import Derived.Test.YtdplpkngacfacaaPAidFreshx0
import Derived.Test.YtdplpkngacfacaaPAidFreshx2
import Derived.Test.YtdplpkngacfacaaPAidFreshx3
namespace Go.Proofs.Ytdplpkngacfacaa.PAidFresh
open Go.RowKit Go.Proofs.YtdplpkngacfacaaW.PrintWords Go.Proofs.YtdplpkngacfacaaW.PrintLast Go.Proofs.YtdplpkngacfacaaW.PrintMore Go.Proofs.YtdplpkngacfacaaW.Mine
attribute [local go_sem] max2_int min2_int max_two min_two max_three min_three max_four min_four   -- for this text's walks alone
set_option linter.unusedVariables false
set_option linter.unusedSimpArgs false

/-! ### garderoberef00_Wide: function 28 -/
mutual
def garderoberef00_Wide.l0 : Nat → List Int → List Int → Int → Option (List Int)
  | 0, _, _, _ => none
  | k + 1, x0, x3, x4 => if x4 < (x0.length : Int) then (if 0 ≤ x4 then (if x4 < (x3.length : Int) then (garderoberef00_Wide.l0 k x0 (x3.set (x4 : Int).toNat (rd x0 x4)) (wrap64 (x4 + 1))) else (none)) else (none)) else (garderoberef00_Wide.l1 k x0 x3 (x0.length : Int))
def garderoberef00_Wide.l1 : Nat → List Int → List Int → Int → Option (List Int)
  | 0, _, _, _ => none
  | k + 1, x0, x3, x5 => if x5 < (x3.length : Int) then (if 0 ≤ x5 then (garderoberef00_Wide.l1 k x0 (x3.set (x5 : Int).toNat 7) (wrap64 (x5 + 1))) else (none)) else (if 0 ≤ (x0.length : Int) then (if (x0.length : Int) ≤ (x3.length : Int) then (some (x3.take ((x0.length : Int) : Int).toNat)) else (none)) else (none))
end
def garderoberef00_Wide.f (_k : Nat) (l0 : List Int) : Option (List Int) := if l0.length ≤ 140737488355328 then some l0 else none
theorem garderoberef00_Wide.mono_l : ∀ k, (∀ y0 y1 y2, LeO (garderoberef00_Wide.l0 k y0 y1 y2) (garderoberef00_Wide.l0 (k + 1) y0 y1 y2)) ∧ (∀ y0 y1 y2, LeO (garderoberef00_Wide.l1 k y0 y1 y2) (garderoberef00_Wide.l1 (k + 1) y0 y1 y2))
  | 0 => ⟨fun _ _ _ r h => by simp [garderoberef00_Wide.l0] at h, fun _ _ _ r h => by simp [garderoberef00_Wide.l1] at h⟩
  | k + 1 => by
    obtain ⟨ih0, ih1⟩ := garderoberef00_Wide.mono_l k
    refine ⟨?_, ?_⟩
    · intro y0 y1 y2
      unfold garderoberef00_Wide.l0
      repeat' first
      | (with_reducible exact ih0 _ _ _)
      | (with_reducible exact ih1 _ _ _)
      | (with_reducible exact LeO.refl _)
      | (with_reducible exact LeO.none _)
      | (with_reducible refine LeO.ite ?_ ?_)
      | (with_reducible refine LeO.bind ?_ (fun _ => ?_))
      | exact ih0 _ _ _
      | exact ih1 _ _ _
      | exact LeO.none _
      | refine LeO.ite ?_ ?_
      | refine LeO.bind ?_ (fun _ => ?_)
    · intro y0 y1 y2
      unfold garderoberef00_Wide.l1
      repeat' first
      | (with_reducible exact ih0 _ _ _)
      | (with_reducible exact ih1 _ _ _)
      | (with_reducible exact LeO.refl _)
      | (with_reducible exact LeO.none _)
      | (with_reducible refine LeO.ite ?_ ?_)
      | (with_reducible refine LeO.bind ?_ (fun _ => ?_))
      | exact ih0 _ _ _
      | exact ih1 _ _ _
      | exact LeO.none _
      | refine LeO.ite ?_ ?_
      | refine LeO.bind ?_ (fun _ => ?_)
theorem garderoberef00_Wide.mono : ∀ a0 k, LeO (garderoberef00_Wide.f k a0) (garderoberef00_Wide.f (k + 1) a0) := by
  intro a0 k
  obtain ⟨ih0, ih1⟩ := garderoberef00_Wide.mono_l k
  unfold garderoberef00_Wide.f
  repeat' first
      | (with_reducible exact ih0 _ _ _)
      | (with_reducible exact ih1 _ _ _)
      | (with_reducible exact LeO.refl _)
      | (with_reducible exact LeO.none _)
      | (with_reducible refine LeO.ite ?_ ?_)
      | (with_reducible refine LeO.bind ?_ (fun _ => ?_))
      | exact ih0 _ _ _
      | exact ih1 _ _ _
      | exact LeO.none _
      | refine LeO.ite ?_ ?_
      | refine LeO.bind ?_ (fun _ => ?_)
set_option maxHeartbeats 8000000 in
set_option maxRecDepth 100000 in
theorem garderoberef00_Wide.calls (k : Nat) (A0 : Option Addr) (c0 : Nat) (l0 : List Int) (r : List Int) (w : World) (hr0 : Kd.C (Kd.int .u8) w A0 l0.length l0) (hc0 : l0.length ≤ c0) (h : garderoberef00_Wide.f k l0 = some r) :
    Calls Try.prog 28 #[.slice A0 l0.length c0] w fun e w' => ∃ v0_ : Value, e = .returned (v0_) ∧ Kr.R (Kd.int .u8) 5 w' w.heap.size (fun _ => True) v0_ r ∧ Kr.R (Kd.int .u8) 5 w' w.heap.size (fun _ => True) (Go.Proofs.YtdplpkngacfacaaW.Mine.longV v0_) (r ++ [7, 7, 7]) ∧ Below w.heap.size w w' := by
  have hlen : l0.length ≤ 140737488355328 := by
    unfold garderoberef00_Wide.f at h
    split at h
    · assumption
    · cases h
  have hr_ : l0 = r := by
    unfold garderoberef00_Wide.f at h
    rw [if_pos hlen] at h
    exact Option.some.inj h
  subst hr_
  clear h
  have HR0 := Aside0.mk hr0
  have HC0 := Aside0.mk hc0
  have HL := Aside0.mk hlen
  clear hr0 hc0
  have HB := Aside0.mk (Below.refl w.heap.size w)
  obtain ⟨ji2, hji2⟩ : ∃ j_ : Int, (wrap64 ((l0.length : Int) + 3)) = j_ := ⟨_, rfl⟩
  have hji2w : (IntKind.i64.wrap ((l0.length : Int) + 3)) = ji2 := (i64_w _).trans hji2
  have hj3 : ji2 = ((l0.length + 3 : Nat) : Int) := by rw [← hji2]; unfold wrap64; omega
  have HJ3 := Aside0.mk hj3
  obtain ⟨m3, hm3_⟩ : ∃ m_ : Nat, m_ = l0.length + 3 := ⟨_, rfl⟩
  have HM3 := Aside0.mk hm3_
  clear hm3_
  have c3 : 0 ≤ ji2 := by omega
  have c4 : ji2.toNat ≤ 281474976710656 := by omega
  clear hj3 hlen
  have c3b0 := eq_true c3
  have c3b1 : decide (0 ≤ (ji2)) = true := decide_eq_true c3
  have c4b0 := eq_true c4
  have c4b1 : decide ((ji2 : Int).toNat ≤ 281474976710656) = true := decide_eq_true c4
  clear c3 c4
  obtain ⟨y166, hy166⟩ : ∃ y_ : List Int, y_ = (List.replicate (ji2 : Int).toNat 0) := ⟨_, rfl⟩
  have Ny186 := Aside0.mk hy166
  clear hy166
  go_enter Try.func28, Try.ntmps28
  go_wp2_with (first | ((with_reducible refine gate_dst (N := 9) rfl ?_); refine Kr.R_make (Kd.int .u8) _ 5 rfl (N := 9) rfl 27 _ _ rfl ji2 rfl rfl Try.underlying27 (.int .u8 0) 1 info5 rfl (by decide) (by omega) 0 (ok := fun _ => True) (okp := fun _ => True) rfl (fun _ hk => hk) trivial (of_decide_eq_true (by first | (with_reducible assumption) | assumption)) (Nat.le_trans (Nat.mul_le_mul_right _ (of_decide_eq_true (by first | (with_reducible assumption) | assumption) : ji2.toNat ≤ 281474976710656)) (by omega)) (Below.refl _ _) (Nat.le_refl _) ?_; intro v187 w5 ho6 hb hg_ hnew_; clear hg_ hnew_; (first | rw [← Ny186.out] at ho6 | (simp only [Int.reduceToNat] at ho6; rw [← Ny186.out] at ho6)); have n0_ := Aside0.mk (Kr.R_lower ho6 (below_size (by repeat (first | (with_reducible first | exact HB.out | apply below_alloc | apply pw_below_drewN | apply below_drew1) | exact HB.out)))); have n1_ := Aside0.mk (below_step (by repeat (first | (with_reducible first | exact HB.out | apply below_alloc | apply pw_below_drewN | apply below_drew1) | exact HB.out)) hb); clear HB; have HO188 := n0_; have HB := n1_; clear n0_ n1_; clear hb ho6))
  have hy0_ : y166 = Go.Proofs.YtdplpkngacfacaaW.Mine.wideA l0 0 := by rw [Ny186.out, Go.Proofs.YtdplpkngacfacaaW.Mine.wideA_zero, HJ3.out]; rfl
  have h0_ := HO188.out
  rw [hy0_] at h0_
  obtain ⟨A_, co_, e_⟩ := Kr.R_slice h0_
  rw [Go.Proofs.YtdplpkngacfacaaW.Mine.wideA_length l0 0 (by omega), ← HM3.out] at e_
  subst e_
  have HO_9 := Aside0.mk h0_
  clear h0_ hy0_ HO188
  try clear c3b0
  try clear c3b1
  try clear c4b0
  try clear c4b1
  go_loopg [4] l0.length (fun kq v4 w' => ∃ (x4_1 : Int), v4 = .int .i64 x4_1 ∧ Aside0 (0 ≤ x4_1 ∧ (kq : Int) + x4_1 = l0.length) ∧ Aside0 (Kr.R (Kd.int .u8) 5 w' w.heap.size (fun _ => True) (.slice A_ m3 co_) (Go.Proofs.YtdplpkngacfacaaW.Mine.wideA l0 x4_1.toNat)) ∧ Aside0 (Below w.heap.size w w'))
  case atStart => exact ⟨0, (by first | rfl | (simp; done) | (simp [*]; done)), ⟨by omega⟩, ⟨by (with_reducible repeat (first | apply Kr.R_alloc | apply Kr.R_drewN | apply Kr.R_drew)); exact HO_9.out⟩, ⟨by repeat (first | (with_reducible first | exact HB.out | apply below_alloc | apply pw_below_drewN | apply below_drew1) | exact HB.out)⟩⟩
  case round =>
    obtain ⟨x4_1, rfl, HA, HO_3, HB⟩ := hrel
    obtain ⟨x3_1, hx3_⟩ : ∃ x_ : List Int, x_ = Go.Proofs.YtdplpkngacfacaaW.Mine.wideA l0 x4_1.toNat := ⟨_, rfl⟩
    rw [← hx3_] at HO_3
    have HLN : Aside0 (x3_1.length = m3) := ⟨by rw [hx3_, Go.Proofs.YtdplpkngacfacaaW.Mine.wideA_length, HM3.out]; have := HA.out; omega⟩
    have HX3 := Aside0.mk hx3_
    clear hx3_
    by_cases c4 : x4_1 < (l0.length : Int)
    · have c4b0 : decide (x4_1 < (l0.length : Int)) = true := decide_eq_true c4
      have c4_ := Aside0.mk c4
      clear c4
      cases gk with
      | zero => exact absurd HA.out.2 (by have := c4_.out; omega)
      | succ k1 =>
          have hw_ : wrap64 (x4_1 + 1) = x4_1 + 1 := by
            have := HL.out
            have := HA.out
            unfold wrap64
            omega
          have HWW := Aside0.mk hw_
          clear hw_
          have p10 : 0 ≤ x4_1 := HA.out.1
          obtain ⟨ad169, e169, hx169_0⟩ := Kd.at_int HR0.out x4_1 p10 c4_.out
          cases e169
          have q169 := eq_true c4_.out
          replace hx169_0 := (HB.out.cell (World.block_lt_of_cell? w _ hx169_0)).trans hx169_0
          obtain ⟨go10, co10, eo10, gb10, gl10, cl10, HG10⟩ := Kr.R_form HO_3.out (by rw [HLN.out, HM3.out]; omega)
          injection eo10 with ea_ en_ ec_
          (first | subst ea_ | (injection ea_ with ea_; subst ea_))
          clear ec_ en_
          have GB10 := Aside0.mk gb10
          clear gb10 gl10 HG10
          obtain ⟨hx10_0, hf10_0⟩ := Kr.R_celln 0 HO_3.out x4_1 p10 (by have h_ := HM3.out; have h2_ := c4_.out; have h3_ := HA.out; omega)
          replace p10 := eq_true p10
          have q10 : (x4_1 < (m3 : Int)) = True := eq_true (by have h_ := HM3.out; have h2_ := c4_.out; have h3_ := HA.out; omega)
          have HP11 := Kr.R_putg HO_3.out x4_1 (rd l0 x4_1)
          go_wp2_with (first | ((with_reducible refine gate_store (t := 5) (p := 22) rfl ?_); refine store_event (t := 5) (p := 22) (v := ?vo_w22) (w1 := (wr.setCell ⟨go10, (x4_1 : Int).toNat, none⟩ (.int .u8 (rd l0 x4_1)))) ?hg ?ho ?hn ?hr ?_; (case ho => rfl); (case hg => rfl); (case hn => rfl); (case hr => first | (go_simp; done) | (go_simp; rfl)); intro w12 hw; have hg : wr.grownBy w12 (some go10) := (by rw [hw]; exact HP11.2); have hp_ : Kr.R (Kd.int .u8) 5 w12 w.heap.size (fun _ => True) (.slice (some ⟨go10, 0, none⟩) m3 co_) (x3_1.set (x4_1 : Int).toNat (rd l0 x4_1)) := (by rw [hw]; exact HP11.1); clear HP11; have n0_ := Aside0.mk (hp_); have n1_ := Aside0.mk ((by rw [hw]; exact below_set (HB.out) GB10.out : Below w.heap.size w w12)); clear HO_3; clear HB; have HO_3 := n0_; have HB := n1_; clear n0_ n1_; clear hg hw hp_))

          go_roundg k1
          case measure => omega
          case rel =>
            refine ⟨x4_1 + 1, ?_, ⟨by have := HA.out; omega⟩, ⟨?_⟩, ⟨by repeat (first | (with_reducible first | exact HB.out | apply below_alloc | apply pw_below_drewN | apply below_drew1) | exact HB.out)⟩⟩
            · first | (rw [HWW.out]; done) | (simp only [HWW.out]; done) | (simp [HWW.out]; done) | (rw [← HWW.out])
            · have h8_ := Go.Proofs.YtdplpkngacfacaaW.Mine.wideA_succ l0 x4_1.toNat (by have := c4_.out; have := HA.out; omega)
              have h7_ : ((x4_1.toNat : Nat) : Int) = x4_1 := Int.toNat_of_nonneg HA.out.1
              rw [← HX3.out, h7_, show x4_1.toNat + 1 = (x4_1 + 1).toNat from by have := HA.out; omega] at h8_
              have h9_ := HO_3.out
              rw [h8_] at h9_
              (with_reducible repeat (first | apply Kr.R_alloc | apply Kr.R_drewN | apply Kr.R_drew))
              exact h9_
    · have c4b0 : decide (x4_1 < (l0.length : Int)) = false := decide_eq_false c4
      have c4_ := Aside0.mk c4
      clear c4
      have h0_ := HO_3.out
      rw [HX3.out, show x4_1.toNat = l0.length from by have := c4_.out; have := HA.out; omega, Go.Proofs.YtdplpkngacfacaaW.Mine.wideA_all] at h0_
      have HO_9 := Aside0.mk h0_
      clear h0_ HO_3
      go_wp2
      go_loopg [5] 3 (fun kq v5 w' => ∃ (x5_2 : Int), v5 = .int .i64 x5_2 ∧ Aside0 ((l0.length : Int) ≤ x5_2 ∧ (kq : Int) + x5_2 = (l0.length : Int) + 3) ∧ Aside0 (Kr.R (Kd.int .u8) 5 w' w.heap.size (fun _ => True) (.slice A_ m3 co_) (Go.Proofs.YtdplpkngacfacaaW.Mine.wideB l0 x5_2.toNat)) ∧ Aside0 (Below w.heap.size w w'))
      case atStart => exact ⟨(l0.length : Int), (by first | rfl | (simp; done) | (simp [*]; done)), ⟨by omega⟩, ⟨by rw [Int.toNat_natCast]; exact (by (with_reducible repeat (first | apply Kr.R_alloc | apply Kr.R_drewN | apply Kr.R_drew)); exact HO_9.out)⟩, ⟨by repeat (first | (with_reducible first | exact HB.out | apply below_alloc | apply pw_below_drewN | apply below_drew1) | exact HB.out)⟩⟩
      case round =>
        clear HX3 HLN HA
        obtain ⟨x5_2, rfl, HA, HO_3, HB⟩ := hrel
        obtain ⟨x3_1, hx3_⟩ : ∃ x_ : List Int, x_ = Go.Proofs.YtdplpkngacfacaaW.Mine.wideB l0 x5_2.toNat := ⟨_, rfl⟩
        rw [← hx3_] at HO_3
        have HLN : Aside0 (x3_1.length = m3) := ⟨by rw [hx3_, HM3.out, Go.Proofs.YtdplpkngacfacaaW.Mine.wideB_length] <;> (have := HA.out; omega)⟩
        have HX3 := Aside0.mk hx3_
        clear hx3_
        by_cases c5 : x5_2 < (m3 : Int)
        · have c5b0 : decide (x5_2 < (m3 : Int)) = true := decide_eq_true c5
          clear c4_
          have c4_ := Aside0.mk c5
          clear c5
          cases gk with
          | zero => exact absurd HA.out.2 (by have := c4_.out; have := HM3.out; omega)
          | succ k1 =>
          have hw_ : wrap64 (x5_2 + 1) = x5_2 + 1 := by
            have := HL.out
            have := HA.out
            unfold wrap64
            omega
          have HWW := Aside0.mk hw_
          clear hw_
          have p10 : 0 ≤ x5_2 := by have := HA.out; omega
          obtain ⟨go10, co10, eo10, gb10, gl10, cl10, HG10⟩ := Kr.R_form HO_3.out (by rw [HLN.out, HM3.out]; omega)
          injection eo10 with ea_ en_ ec_
          (first | subst ea_ | (injection ea_ with ea_; subst ea_))
          clear ec_ en_
          have GB10 := Aside0.mk gb10
          clear gb10 gl10 HG10
          obtain ⟨hx10_0, hf10_0⟩ := Kr.R_celln 0 HO_3.out x5_2 p10 (by have h_ := HM3.out; have h2_ := c4_.out; have h3_ := HA.out; omega)
          replace p10 := eq_true p10
          have q10 : (x5_2 < (m3 : Int)) = True := eq_true (by have h_ := HM3.out; have h2_ := c4_.out; have h3_ := HA.out; omega)
          have HP11 := Kr.R_putg HO_3.out x5_2 (7)
          go_wp2_with (first | ((with_reducible refine gate_store (t := 5) (p := 33) rfl ?_); refine store_event (t := 5) (p := 33) (v := ?vo_w33) (w1 := (wr.setCell ⟨go10, (x5_2 : Int).toNat, none⟩ (.int .u8 (7)))) ?hg ?ho ?hn ?hr ?_; (case ho => rfl); (case hg => rfl); (case hn => rfl); (case hr => first | (go_simp; done) | (go_simp; rfl)); intro w12 hw; have hg : wr.grownBy w12 (some go10) := (by rw [hw]; exact HP11.2); have hp_ : Kr.R (Kd.int .u8) 5 w12 w.heap.size (fun _ => True) (.slice (some ⟨go10, 0, none⟩) m3 co_) (x3_1.set (x5_2 : Int).toNat (7)) := (by rw [hw]; exact HP11.1); clear HP11; have n0_ := Aside0.mk (hp_); have n1_ := Aside0.mk ((by rw [hw]; exact below_set (HB.out) GB10.out : Below w.heap.size w w12)); clear HO_3; clear HB; have HO_3 := n0_; have HB := n1_; clear n0_ n1_; clear hg hw hp_))

          go_roundg k1
          case measure => omega
          case rel =>
            refine ⟨x5_2 + 1, ?_, ⟨by have := HA.out; omega⟩, ⟨?_⟩, ⟨by repeat (first | (with_reducible first | exact HB.out | apply below_alloc | apply pw_below_drewN | apply below_drew1) | exact HB.out)⟩⟩
            · first | (rw [HWW.out]; done) | (simp only [HWW.out]; done) | (simp [HWW.out]; done) | (rw [← HWW.out])
            · have h8_ := Go.Proofs.YtdplpkngacfacaaW.Mine.wideB_succ l0 x5_2.toNat (by have := HA.out; omega) (by have := c4_.out; have := HA.out; have := HM3.out; omega)
              rw [← HX3.out, show x5_2.toNat + 1 = (x5_2 + 1).toNat from by have := HA.out; omega] at h8_
              have h9_ := HO_3.out
              rw [h8_] at h9_
              (with_reducible repeat (first | apply Kr.R_alloc | apply Kr.R_drewN | apply Kr.R_drew))
              exact h9_
        · have c5b0 : decide (x5_2 < (m3 : Int)) = false := decide_eq_false c5
          have h0_ := HO_3.out
          rw [HX3.out, show x5_2.toNat = l0.length + 3 from by have := HA.out; have := HM3.out; omega, Go.Proofs.YtdplpkngacfacaaW.Mine.wideB_all] at h0_
          obtain ⟨i0_, hi0_, _, hsz0_, _⟩ := info_parts info5
          have hcc_ := (Kr.R_reads' h0_).2.1
          have hcut := cut_to (P := Try.prog) 27 5 .i64 Try.underlying27 hi0_ A_ m3 co_ (l0.length : Int) (by omega) (by have := HM3.out; omega) hcc_
          have hr_ := Kr.R_take (m := ((l0.length : Int) : Int).toNat) h0_ (by simp)
          have ht_ : (l0 ++ [7, 7, 7]).take ((l0.length : Int) : Int).toNat = l0 := by rw [Int.toNat_natCast, List.take_left]
          rw [ht_] at hr_
          simp only [Int.toNat_natCast] at hcut hr_
          have HO_8 := Aside0.mk hr_
          rw [HM3.out] at h0_
          have HO_7 := Aside0.mk h0_
          clear hr_ h0_ ht_ hi0_ hsz0_ hcc_ c5
          have c6b1 : decide (0 ≤ (l0.length : Int)) = true := decide_eq_true (by omega)
          have c7b1 : decide ((l0.length : Int) ≤ (m3 : Int)) = true := decide_eq_true (by have := HM3.out; omega)
          have c8b1 := eq_true (show (l0.length : Int) ≤ (m3 : Int) by have := HM3.out; omega)
          go_wp2
          go_ret
          refine ⟨_, rfl, by (with_reducible repeat (first | apply Kr.R_alloc | apply Kr.R_drewN | apply Kr.R_drew)); exact HO_8.out, ?_, by repeat (first | (with_reducible first | exact HB.out | apply below_alloc | apply pw_below_drewN | apply below_drew1) | exact HB.out)⟩
          show Kr.R (Kd.int .u8) 5 _ _ _ (.slice A_ (l0.length + 3) co_) _
          (with_reducible repeat (first | apply Kr.R_alloc | apply Kr.R_drewN | apply Kr.R_drew)); exact HO_7.out

/-! ### garderoberef00_Spoil: function 29 -/
def garderoberef00_Spoil.l0 : Nat → List Int → Int → Int → Option (List Int)
  | 0, _, _, _ => none
  | k + 1, x0, x1, x5 => if x5 < (x0.length : Int) then (if 0 ≤ x5 then (garderoberef00_Spoil.l0 k (x0.set (x5 : Int).toNat (((rd x0 x5) + x1) % 256)) x1 (wrap64 (x5 + 1))) else (none)) else (some x0)
def garderoberef00_Spoil.f (_k : Nat) (l0 : List Int) (a1 : Int) : Option (List Int) := some (l0.map (fun x => (x + a1) % 256))
theorem garderoberef00_Spoil.mono_l : ∀ k, (∀ y0 y1 y2, LeO (garderoberef00_Spoil.l0 k y0 y1 y2) (garderoberef00_Spoil.l0 (k + 1) y0 y1 y2))
  | 0 => fun _ _ _ r h => by simp [garderoberef00_Spoil.l0] at h
  | k + 1 => by
    have ih0 := garderoberef00_Spoil.mono_l k
    · intro y0 y1 y2
      unfold garderoberef00_Spoil.l0
      repeat' first
      | (with_reducible exact ih0 _ _ _)
      | (with_reducible exact LeO.refl _)
      | (with_reducible exact LeO.none _)
      | (with_reducible refine LeO.ite ?_ ?_)
      | (with_reducible refine LeO.bind ?_ (fun _ => ?_))
      | exact ih0 _ _ _
      | exact LeO.none _
      | refine LeO.ite ?_ ?_
      | refine LeO.bind ?_ (fun _ => ?_)
theorem garderoberef00_Spoil.mono : ∀ a0 a1 k, LeO (garderoberef00_Spoil.f k a0 a1) (garderoberef00_Spoil.f (k + 1) a0 a1) := by
  intro a0 a1 k
  have ih0 := garderoberef00_Spoil.mono_l k
  unfold garderoberef00_Spoil.f
  repeat' first
      | (with_reducible exact ih0 _ _ _)
      | (with_reducible exact LeO.refl _)
      | (with_reducible exact LeO.none _)
      | (with_reducible refine LeO.ite ?_ ?_)
      | (with_reducible refine LeO.bind ?_ (fun _ => ?_))
      | exact ih0 _ _ _
      | exact LeO.none _
      | refine LeO.ite ?_ ?_
      | refine LeO.bind ?_ (fun _ => ?_)
set_option maxHeartbeats 8000000 in
set_option maxRecDepth 100000 in
theorem garderoberef00_Spoil.calls (k : Nat) (P0_ : Nat → Prop) (u9000_ : Value) (l0 : List Int) (a1 : Int) (r : List Int) (w0 w : World) (hB : Below w0.heap.size w0 w) (ho0 : Kr.R (Kd.int .u8) 5 w w0.heap.size P0_ u9000_ l0) (h : garderoberef00_Spoil.f k l0 a1 = some r) :
    Calls Try.prog 29 #[u9000_, .int .u8 a1] w fun e w' => e = .returned (.tuple #[]) ∧ Kr.R (Kd.int .u8) 5 w' w0.heap.size (fun k_ => (P0_ k_ ∨ w.heap.size ≤ k_)) u9000_ r ∧ Below w0.heap.size w0 w' ∧ Kept w w' (fun k_ => P0_ k_) := by
  have HO0 := Aside0.mk (show Kr.R (Kd.int .u8) 5 w w0.heap.size (fun k_ => (P0_ k_ ∨ w.heap.size ≤ k_)) u9000_ l0 from Kr.R_mono ho0 (fun k_ hk => (.inl hk)))
  have HK := Aside0.mk (Kept.refl w (fun k_ => P0_ k_))
  have HW0 := Aside0.mk hB.size
  have HB := Aside0.mk hB
  clear hB ho0
  obtain rfl := Option.some.inj h
  clear h
  obtain ⟨Ao3, co3, eo3⟩ := Kr.R_slice HO0.out
  subst eo3
  have hnc := (Kr.R_reads' HO0.out).2.1
  obtain ⟨L, hLl, hLt, hL⟩ := Kr.R_whole HO0.out
  have hmax : co3 ≤ 9223372036854775807 := by
    have h1_ := Kd.C_max (Kr.R_reads' hL).2.2
    omega
  obtain ⟨i0_, hi0, _, hsz0, _⟩ := info_parts info5
  have hcut : ∀ W : World, (Instr.slice 27 (.slice Ao3 l0.length co3) none (some (.int .i64 co3)) (some (.int .i64 co3))).run Try.prog W = .ok (.slice Ao3 co3 co3) W := fun W => Go.Proofs.YtdplpkngacfacaaW.Mine.whole3_of 27 5 .i64 .i64 Try.underlying27 hi0 hsz0 Ao3 l0.length co3 W
  clear hi0 hsz0
  have HL0 := Aside0.mk hL
  have HLl := Aside0.mk hLl
  have HLt := Aside0.mk hLt
  have HNC := Aside0.mk hnc
  have HMX := Aside0.mk hmax
  clear hL hLl hLt hnc hmax HO0
  go_enter Try.func29, Try.ntmps29
  go_wp2
  go_loopg [5] co3 (fun kq v5 w' => ∃ (x5_1 : Int), v5 = .int .i64 x5_1 ∧ Aside0 (0 ≤ x5_1 ∧ (kq : Int) + x5_1 = co3) ∧ Aside0 (Kr.R (Kd.int .u8) 5 w' w0.heap.size (fun k_ => (P0_ k_ ∨ w.heap.size ≤ k_)) (.slice Ao3 co3 co3) (Go.Proofs.YtdplpkngacfacaaW.Mine.spoilt a1 L x5_1.toNat)) ∧ Aside0 (Kept w w' (fun k_ => P0_ k_)) ∧ Aside0 (Below w0.heap.size w0 w'))
  case atStart => exact ⟨0, rfl, ⟨by omega⟩, ⟨by rw [Int.toNat_zero, Go.Proofs.YtdplpkngacfacaaW.Mine.spoilt_zero]; exact (by (with_reducible repeat (first | apply Kr.R_alloc | apply Kr.R_drewN | apply Kr.R_drew)); exact HL0.out)⟩, ⟨by repeat (first | (with_reducible first | exact HK.out | apply Kept.alloc | apply Kept.drewN | apply Kept.drew) | exact HK.out)⟩, ⟨by repeat (first | (with_reducible first | exact HB.out | apply below_alloc | apply pw_below_drewN | apply below_drew1) | exact HB.out)⟩⟩
  case round =>
    obtain ⟨x5_1, rfl, HA, HO_0, HK, HB⟩ := hrel
    obtain ⟨x0_1, hx0_⟩ : ∃ x_ : List Int, x_ = Go.Proofs.YtdplpkngacfacaaW.Mine.spoilt a1 L x5_1.toNat := ⟨_, rfl⟩
    rw [← hx0_] at HO_0
    have hlen_ : x0_1.length = co3 := by rw [hx0_, Go.Proofs.YtdplpkngacfacaaW.Mine.spoilt_length]; exact HLl.out
    have HX0 := Aside0.mk hx0_
    have HLN := Aside0.mk hlen_
    clear hx0_ hlen_
    by_cases c4 : x5_1 < (co3 : Int)
    · have c4b0 : decide (x5_1 < (co3 : Int)) = true := decide_eq_true c4
      cases gk with
      | zero => exact absurd HA.out.2 (by omega)
      | succ k1 =>
        have hw_ : wrap64 (x5_1 + 1) = x5_1 + 1 := by
          have := HMX.out
          have := HA.out
          unfold wrap64
          omega
        have HWW := Aside0.mk hw_
        clear hw_
        have p173 : 0 ≤ x5_1 := HA.out.1
        have q173 : x5_1 < (x0_1.length : Int) := by rw [HLN.out]; exact c4
        obtain ⟨ad173, e173, hx173_0⟩ := Kd.at_int (Kr.R_reads' HO_0.out).2.2 x5_1 p173 q173
        cases e173
        clear q173
        have c4_ := Aside0.mk c4
        clear c4
        obtain ⟨go6, co6, eo6, gb6, gl6, cl6, HG6⟩ := Kr.R_form HO_0.out (by rw [HLN.out]; have := c4_.out; have := HA.out; omega)
        injection eo6 with ea_ en_ ec_
        (first | subst ea_ | (injection ea_ with ea_; subst ea_))
        clear ec_ en_
        have GB6 := Aside0.mk gb6
        clear gb6 gl6 HG6
        (first | simp only [add_plain] at hx173_0 | skip)
        obtain ⟨hx6_0, hf6_0⟩ := Kr.R_celln 0 HO_0.out x5_1 p173 c4_.out
        replace p173 := eq_true p173
        have q6 := eq_true c4_.out
        have HP7 := Kr.R_putg HO_0.out x5_1 (((rd x0_1 x5_1) + a1) % 256)
        go_wp2_with (first | ((with_reducible refine gate_store (t := 5) (p := 26) rfl ?_); refine store_event (t := 5) (p := 26) (v := ?vo_w8) (w1 := (wr.setCell ⟨go6, x5_1.toNat, none⟩ (.int .u8 (((rd x0_1 x5_1) + a1) % 256)))) ?hg ?ho ?hn ?hr ?_; (case ho => rfl); (case hg => rfl); (case hn => rfl); (case hr => first | (go_simp; done) | (go_simp; rfl)); intro w8 hw; have hg : wr.grownBy w8 (some go6) := (by rw [hw]; exact HP7.2); have hp_ : Kr.R (Kd.int .u8) 5 w8 w0.heap.size (fun k_ => (P0_ k_ ∨ w.heap.size ≤ k_)) (.slice (some ⟨go6, 0, none⟩) co3 co3) (x0_1.set x5_1.toNat (((rd x0_1 x5_1) + a1) % 256)) := (by rw [hw]; exact HP7.1); clear HP7; have n0_ := Aside0.mk (hp_); have n1_ := Aside0.mk ((by rw [hw]; exact below_set (HB.out) GB6.out : Below w0.heap.size w0 w8)); have n2_ := Aside0.mk (Kept.of_grown (S := (fun k_ => P0_ k_)) hg (by repeat (first | (with_reducible first | exact HK.out | apply Kept.alloc | apply Kept.drewN | apply Kept.drew) | exact HK.out)) (fun k_ e_ => (HO_0.out.1.1 k_ e_))); clear HO_0; clear HB; clear HK; have HO_0 := n0_; have HB := n1_; have HK := n2_; clear n0_ n1_ n2_; clear hg hw hp_))
        go_roundg k1
        case measure => omega
        case rel =>
          refine ⟨x5_1 + 1, ?_, ⟨by have := HA.out; omega⟩, ⟨?_⟩, ⟨by repeat (first | (with_reducible first | exact HK.out | apply Kept.alloc | apply Kept.drewN | apply Kept.drew) | exact HK.out)⟩, ⟨by repeat (first | (with_reducible first | exact HB.out | apply below_alloc | apply pw_below_drewN | apply below_drew1) | exact HB.out)⟩⟩
          · first | (rw [HWW.out]; done) | (simp only [HWW.out]; done) | (simp [HWW.out]; done) | (rw [← HWW.out])
          · have h8_ := Go.Proofs.YtdplpkngacfacaaW.Mine.spoilt_succ a1 L x5_1.toNat (by rw [HLl.out]; have := c4_.out; have := HA.out; omega)
            have h7_ : ((x5_1.toNat : Nat) : Int) = x5_1 := Int.toNat_of_nonneg HA.out.1
            rw [← HX0.out, h7_, show x5_1.toNat + 1 = (x5_1 + 1).toNat from by have := HA.out; omega] at h8_
            have h9_ := HO_0.out
            rw [h8_] at h9_
            (with_reducible repeat (first | apply Kr.R_alloc | apply Kr.R_drewN | apply Kr.R_drew))
            exact h9_
    · have c4b0 : decide (x5_1 < (co3 : Int)) = false := decide_eq_false c4
      have c4_ := Aside0.mk c4
      clear c4
      go_wp2
      first | go_end0 | ((try simp only [Exit.inBlock, Exit.then]); refine bodyPost_ret (results_none rfl _ _ _) rfl ?_)
      have h9_ := Kr.R_short HO_0.out HNC.out
      rw [HX0.out, Go.Proofs.YtdplpkngacfacaaW.Mine.spoilt_all a1 L x5_1.toNat (by have h1_ := c4_.out; have h2_ := HLl.out; have h3_ := HA.out; omega), ← List.map_take, HLt.out] at h9_
      refine ⟨by first | rfl | (simp; done) | (simp [*]; done), ?_, by repeat (first | (with_reducible first | exact HB.out | apply below_alloc | apply pw_below_drewN | apply below_drew1) | exact HB.out), by repeat (first | (with_reducible first | exact HK.out | apply Kept.alloc | apply Kept.drewN | apply Kept.drew) | exact HK.out)⟩
      (with_reducible repeat (first | apply Kr.R_alloc | apply Kr.R_drewN | apply Kr.R_drew))
      exact h9_

/-! ### garderoberef00_Left: function 30 -/
def garderoberef00_Left.l0 : Nat → List Int → List Int → Int → Option (Bool)
  | 0, _, _, _ => none
  | k + 1, x0, x1, x5 => if x5 < (x0.length : Int) then (if 0 ≤ x5 then (if x5 < (x1.length : Int) then (if (rd x0 x5) = (rd x1 x5) then (garderoberef00_Left.l0 k x0 x1 (wrap64 (x5 + 1))) else (some false)) else (none)) else (none)) else (some true)
def garderoberef00_Left.f (_k : Nat) (l0 : List Int) (l1 : List Int) : Option (Bool) := if l0 = l1 ∧ l0.length ≤ 140737488355328 then some true else none
theorem garderoberef00_Left.mono_l : ∀ k, (∀ y0 y1 y2, LeO (garderoberef00_Left.l0 k y0 y1 y2) (garderoberef00_Left.l0 (k + 1) y0 y1 y2))
  | 0 => fun _ _ _ r h => by simp [garderoberef00_Left.l0] at h
  | k + 1 => by
    have ih0 := garderoberef00_Left.mono_l k
    · intro y0 y1 y2
      unfold garderoberef00_Left.l0
      repeat' first
      | (with_reducible exact ih0 _ _ _)
      | (with_reducible exact LeO.refl _)
      | (with_reducible exact LeO.none _)
      | (with_reducible refine LeO.ite ?_ ?_)
      | (with_reducible refine LeO.bind ?_ (fun _ => ?_))
      | exact ih0 _ _ _
      | exact LeO.none _
      | refine LeO.ite ?_ ?_
      | refine LeO.bind ?_ (fun _ => ?_)
theorem garderoberef00_Left.mono : ∀ a0 a1 k, LeO (garderoberef00_Left.f k a0 a1) (garderoberef00_Left.f (k + 1) a0 a1) := by
  intro a0 a1 k
  have ih0 := garderoberef00_Left.mono_l k
  unfold garderoberef00_Left.f
  repeat' first
      | (with_reducible exact ih0 _ _ _)
      | (with_reducible exact LeO.refl _)
      | (with_reducible exact LeO.none _)
      | (with_reducible refine LeO.ite ?_ ?_)
      | (with_reducible refine LeO.bind ?_ (fun _ => ?_))
      | exact ih0 _ _ _
      | exact LeO.none _
      | refine LeO.ite ?_ ?_
      | refine LeO.bind ?_ (fun _ => ?_)
set_option maxHeartbeats 8000000 in
set_option maxRecDepth 100000 in
theorem garderoberef00_Left.calls (k : Nat) (A0 : Option Addr) (c0 : Nat) (l0 : List Int) (A1 : Option Addr) (c1 : Nat) (l1 : List Int) (r : Bool) (w : World) (hr0 : Kd.C (Kd.int .u8) w A0 l0.length l0) (hc0 : l0.length ≤ c0) (hr1 : Kd.C (Kd.int .u8) w A1 l1.length l1) (hc1 : l1.length ≤ c1) (hlong : (Kd.int .u8).C w A0 (l0.length + 3) (l0 ++ [7, 7, 7])) (hc3 : l0.length + 3 ≤ c0) (h : garderoberef00_Left.f k l0 l1 = some r) :
    Calls Try.prog 30 #[.slice A0 l0.length c0, .slice A1 l1.length c1] w fun e w' => e = .returned (.bool r) ∧ Drawn0 w w' := by
  have hall_ : l0 = l1 ∧ l0.length ≤ 140737488355328 := by
    unfold garderoberef00_Left.f at h
    split at h
    · assumption
    · cases h
  have hr_ : r = true := by
    unfold garderoberef00_Left.f at h
    rw [if_pos hall_] at h
    exact (Option.some.inj h).symm
  subst hr_
  obtain ⟨rfl, hlen⟩ := hall_
  clear h
  have key : ∀ d i : Nat, i + d = l0.length → garderoberef00_Same.l0 (d + 1) l0 l0 (i : Int) = some true := by
    intro d
    induction d with
    | zero =>
      intro i hi
      rw [garderoberef00_Same.l0, if_neg (by omega)]
    | succ d ih =>
      intro i hi
      rw [garderoberef00_Same.l0, if_pos (by omega), if_pos (by omega), if_pos (by omega), if_pos rfl, show wrap64 ((i : Int) + 1) = ((i + 1 : Nat) : Int) from by unfold wrap64; omega]
      exact ih (i + 1) (by omega)
  have hsame : garderoberef00_Same.f (l0.length + 1) l0 l0 = some true := by
    unfold garderoberef00_Same.f
    rw [if_pos rfl]
    exact key l0.length 0 (by omega)
  clear key
  have HS := Aside0.mk hsame
  have HR0 := Aside0.mk hr0
  have HC0 := Aside0.mk hc0
  have HR1 := Aside0.mk hr1
  have HC1 := Aside0.mk hc1
  have HL := Aside0.mk hlen
  have HLG := Aside0.mk hlong
  have HL3 := Aside0.mk hc3
  obtain ⟨m3, hm3_⟩ : ∃ m_ : Nat, m_ = l0.length + 3 := ⟨_, rfl⟩
  obtain ⟨i0_, hi0_, _, hsz0_, _⟩ := info_parts info5
  have hcut : ∀ W : World, (Instr.slice 27 (.slice A0 l0.length c0) none (some (.int .i64 (m3 : Int))) (some (.int .i64 (m3 : Int)))).run Try.prog W = .ok (.slice A0 m3 m3) W := fun W => by
    have h_ := Go.Proofs.YtdplpkngacfacaaW.Mine.upto3_of 27 5 .i64 .i64 Try.underlying27 hi0_ hsz0_ A0 l0.length c0 (m3 : Int) (by omega) (by omega) W
    simpa using h_
  clear hsame hr0 hc0 hr1 hc1 hlong hi0_ hsz0_
  have hji2 : (wrap64 ((l0.length : Int) + 3)) = (m3 : Int) := by unfold wrap64; omega
  have hji2w : (IntKind.i64.wrap ((l0.length : Int) + 3)) = (m3 : Int) := (i64_w _).trans hji2
  have c1b0 : decide ((c0 : Int) < (m3 : Int)) = false := decide_eq_false (by omega)
  have c1b2 : decide (c0 < m3) = false := decide_eq_false (by omega)
  have HM3 := Aside0.mk hm3_
  clear hlen hc3 hm3_
  go_enter Try.func30, Try.ntmps30
  go_wp2_with (first | (go_at_call 26; (with_reducible refine (garderoberef00_Same.calls (l0.length + 1) _ _ l0 _ _ l0 true _ ?side1 ?side2 ?side3 ?side4 HS.out).mono ?_); (case side1 => repeat (first | exact HR0.out | (with_reducible refine Kd.C_alloc ?_ _) | (with_reducible refine Kd.C_drewN ?_ _) | (with_reducible refine Kd.C_drew ?_))); (case side2 => exact HC0.out); (case side3 => repeat (first | exact HR1.out | (with_reducible refine Kd.C_alloc ?_ _) | (with_reducible refine Kd.C_drewN ?_ _) | (with_reducible refine Kd.C_drew ?_))); (case side4 => exact HC1.out); rintro e w' ⟨rfl, ⟨nd, rfl⟩⟩))
  go_loopg [6] 3 (fun kq v6 w' => ∃ (x6_2 : Int), v6 = .int .i64 x6_2 ∧ Aside0 ((l0.length : Int) ≤ x6_2 ∧ (kq : Int) + x6_2 = (l0.length : Int) + 3) ∧ Drawn0 w w')
  case atStart => exact ⟨(l0.length : Int), (by first | rfl | (simp; done) | (simp [*]; done)), ⟨by omega⟩, by first | exact ⟨_, rfl⟩ | (repeat (first | exact Drawn0.refl _ | apply Drawn0.step))⟩
  case round =>
    obtain ⟨x6_2, rfl, HA, ⟨nd2, rfl⟩⟩ := hrel
    by_cases c5 : x6_2 < (m3 : Int)
    · have c5b0 : decide (x6_2 < (m3 : Int)) = true := decide_eq_true c5
      have c5_ := Aside0.mk c5
      clear c5
      cases gk with
      | zero => exact absurd HA.out.2 (by have := c5_.out; have := HM3.out; omega)
      | succ k1 =>
        have hw_ : wrap64 (x6_2 + 1) = x6_2 + 1 := by
          have := HL.out
          have := HA.out
          unfold wrap64
          omega
        have HWW := Aside0.mk hw_
        clear hw_
        have p10 : 0 ≤ x6_2 := by have := HA.out; omega
        obtain ⟨ad169, e169, hx169_0⟩ := Kd.at_int HLG.out x6_2 p10 (by have := c5_.out; have := HM3.out; omega)
        have h7_ := Go.Proofs.YtdplpkngacfacaaW.Mine.long_at l0 x6_2.toNat (by have := HA.out; omega) (by have := c5_.out; have := HM3.out; omega)
        rw [Int.toNat_of_nonneg p10] at h7_
        rw [h7_] at hx169_0
        cases e169
        (try simp only [add_plain] at hx169_0)
        replace p10 := eq_true p10
        have q10 := eq_true c5_.out
        go_wp2
        go_roundg k1
        case measure => omega
        case rel =>
          refine ⟨x6_2 + 1, ?_, ⟨by have := HA.out; omega⟩, ?_⟩
          · first | (rw [HWW.out]; done) | (simp only [HWW.out]; done) | (simp [HWW.out]; done) | (rw [← HWW.out])
          · first | exact ⟨_, rfl⟩ | (repeat (first | exact Drawn0.refl _ | apply Drawn0.step))
    · have c5b0 : decide (x6_2 < (m3 : Int)) = false := decide_eq_false c5
      clear c5
      go_wp2
      go_ret
      exact ⟨rfl, by first | exact ⟨_, rfl⟩ | (repeat (first | exact Drawn0.refl _ | apply Drawn0.step))⟩

/-! ### garderobelaw03_AidFresh: function 8 -/
def garderobelaw03_AidFresh.f (k : Nat) (l0 : List Int) (a1 : Int) : Option (Bool) := (garderoberef00_Wide.f k l0).bind fun t199 => ((aid_Put.f k t199).bind fun bt202 => ((aid_Get.f k t199 a1).bind fun bt206 => ((garderoberef00_Spoil.f k bt202.1 1).bind fun t211 => ((garderoberef00_Spoil.f k bt206.1 1).bind fun t212 => ((aid_Issuer.f t199 t199).bind fun t213 => ((garderoberef00_Left.f k t199 l0).bind fun t214 => (if t214 = true then ((garderobelaw03_works.f k).bind fun t215 => (some t215)) else (none))))))))
theorem garderobelaw03_AidFresh.mono : ∀ a0 a1 k, LeO (garderobelaw03_AidFresh.f k a0 a1) (garderobelaw03_AidFresh.f (k + 1) a0 a1) := by
  intro a0 a1 k
  unfold garderobelaw03_AidFresh.f
  repeat' first
      | (with_reducible exact aid_Get.mono _ _ _)
      | (with_reducible exact aid_Put.mono _ _)
      | (with_reducible exact garderobelaw03_works.mono _)
      | (with_reducible exact garderoberef00_Left.mono _ _ _)
      | (with_reducible exact garderoberef00_Spoil.mono _ _ _)
      | (with_reducible exact garderoberef00_Wide.mono _ _)
      | (with_reducible exact LeO.refl _)
      | (with_reducible exact LeO.none _)
      | (with_reducible refine LeO.ite ?_ ?_)
      | (with_reducible refine LeO.bind ?_ (fun _ => ?_))
      | exact aid_Get.mono _ _ _
      | exact aid_Put.mono _ _
      | exact garderobelaw03_works.mono _
      | exact garderoberef00_Left.mono _ _ _
      | exact garderoberef00_Spoil.mono _ _ _
      | exact garderoberef00_Wide.mono _ _
      | exact LeO.none _
      | refine LeO.ite ?_ ?_
      | refine LeO.bind ?_ (fun _ => ?_)
set_option maxHeartbeats 8000000 in
set_option maxRecDepth 100000 in
theorem garderobelaw03_AidFresh.calls (k : Nat) (A0 : Option Addr) (c0 : Nat) (l0 : List Int) (a1 : Int) (r : Bool) (w : World) (hr0 : Kd.C (Kd.int .u8) w A0 l0.length l0) (hc0 : l0.length ≤ c0) (h : garderobelaw03_AidFresh.f k l0 a1 = some r) :
    Calls Try.prog 8 #[.slice A0 l0.length c0, .int .i64 a1] w fun e w' => e = .returned (.bool r) ∧ Below w.heap.size w w' := by
  have HR0 := Aside0.mk hr0
  have HC0 := Aside0.mk hc0
  clear hr0 hc0
  have HB := Aside0.mk (Below.refl w.heap.size w)
  have H : ((garderoberef00_Wide.f k l0).bind fun t199 => ((aid_Put.f k t199).bind fun bt202 => ((aid_Get.f k t199 a1).bind fun bt206 => ((garderoberef00_Spoil.f k bt202.1 1).bind fun t211 => ((garderoberef00_Spoil.f k bt206.1 1).bind fun t212 => ((aid_Issuer.f t199 t199).bind fun t213 => ((garderoberef00_Left.f k t199 l0).bind fun t214 => (if t214 = true then ((garderobelaw03_works.f k).bind fun t215 => (some t215)) else (none))))))))) = some r := h
  clear h
  replace H := Option.bind_eq_some_iff.mp H
  obtain ⟨t199, A30, H⟩ := H
  replace H : ((aid_Put.f k t199).bind fun bt202 => ((aid_Get.f k t199 a1).bind fun bt206 => ((garderoberef00_Spoil.f k bt202.1 1).bind fun t211 => ((garderoberef00_Spoil.f k bt206.1 1).bind fun t212 => ((aid_Issuer.f t199 t199).bind fun t213 => ((garderoberef00_Left.f k t199 l0).bind fun t214 => (if t214 = true then ((garderobelaw03_works.f k).bind fun t215 => (some t215)) else (none)))))))) = some r := H
  have A3 := Aside0.mk A30
  clear A30
  replace H := Option.bind_eq_some_iff.mp H
  obtain ⟨⟨t202, t203⟩, A40, H⟩ := H
  replace H : ((aid_Get.f k t199 a1).bind fun bt206 => ((garderoberef00_Spoil.f k t202 1).bind fun t211 => ((garderoberef00_Spoil.f k bt206.1 1).bind fun t212 => ((aid_Issuer.f t199 t199).bind fun t213 => ((garderoberef00_Left.f k t199 l0).bind fun t214 => (if t214 = true then ((garderobelaw03_works.f k).bind fun t215 => (some t215)) else (none))))))) = some r := H
  have A4 := Aside0.mk A40
  clear A40
  replace H := Option.bind_eq_some_iff.mp H
  obtain ⟨⟨t206, t207, t208⟩, A50, H⟩ := H
  replace H : ((garderoberef00_Spoil.f k t202 1).bind fun t211 => ((garderoberef00_Spoil.f k t206 1).bind fun t212 => ((aid_Issuer.f t199 t199).bind fun t213 => ((garderoberef00_Left.f k t199 l0).bind fun t214 => (if t214 = true then ((garderobelaw03_works.f k).bind fun t215 => (some t215)) else (none)))))) = some r := H
  have A5 := Aside0.mk A50
  clear A50
  replace H := Option.bind_eq_some_iff.mp H
  obtain ⟨t211, A60, H⟩ := H
  replace H : ((garderoberef00_Spoil.f k t206 1).bind fun t212 => ((aid_Issuer.f t199 t199).bind fun t213 => ((garderoberef00_Left.f k t199 l0).bind fun t214 => (if t214 = true then ((garderobelaw03_works.f k).bind fun t215 => (some t215)) else (none))))) = some r := H
  have A6 := Aside0.mk A60
  clear A60
  replace H := Option.bind_eq_some_iff.mp H
  obtain ⟨t212, A70, H⟩ := H
  replace H : ((aid_Issuer.f t199 t199).bind fun t213 => ((garderoberef00_Left.f k t199 l0).bind fun t214 => (if t214 = true then ((garderobelaw03_works.f k).bind fun t215 => (some t215)) else (none)))) = some r := H
  have A7 := Aside0.mk A70
  clear A70
  replace H := Option.bind_eq_some_iff.mp H
  obtain ⟨t213, A80, H⟩ := H
  replace H : ((garderoberef00_Left.f k t199 l0).bind fun t214 => (if t214 = true then ((garderobelaw03_works.f k).bind fun t215 => (some t215)) else (none))) = some r := H
  have A8 := Aside0.mk A80
  clear A80
  replace H := Option.bind_eq_some_iff.mp H
  obtain ⟨t214, A90, H⟩ := H
  replace H : (if t214 = true then ((garderobelaw03_works.f k).bind fun t215 => (some t215)) else (none)) = some r := H
  have A9 := Aside0.mk A90
  clear A90
  by_cases c10 : t214 = true
  · subst c10
    have H1 : ((garderobelaw03_works.f k).bind fun t215 => (some t215)) = some r := by rw [if_pos rfl] at H; exact H
    clear H
    have H := H1
    clear H1
    replace H := Option.bind_eq_some_iff.mp H
    obtain ⟨t215, A110, H⟩ := H
    replace H : (some t215) = some r := H
    have A11 := Aside0.mk A110
    clear A110
    obtain rfl := Option.some.inj H
    go_enter Try.func8, Try.ntmps8
    go_wp2_with (first | ((with_reducible refine gate_callee (f := 28) rfl ?_); refine goesL_ (some 12) rfl rfl Try.func28 (by kernel_rfl) rfl #[.slice A0 l0.length c0] rfl (by (try simp only [List.map_toArray, List.map_cons, List.map_nil]); first | done | rfl | (simp only [List.length_drop, List.length_take]; rfl)) ?_; (with_reducible refine (garderoberef00_Wide.calls k _ _ l0 t199 _ ?side1 ?side2 A3.out).mono ?_); (case side1 => repeat (first | exact HR0.out | (with_reducible refine Kd.C_alloc ?_ _) | (with_reducible refine Kd.C_drewN ?_ _) | (with_reducible refine Kd.C_drew ?_))); (case side2 => exact HC0.out); rintro e w12 ⟨v200, rfl, ho0, hx0, hb⟩; refine ⟨_, rfl, ?_⟩; have n0_ := Aside0.mk (Kr.R_lower ho0 (below_size (by repeat (first | (with_reducible first | exact HB.out | apply below_alloc | apply pw_below_drewN | apply below_drew1) | exact HB.out)))); have xn0_ := Aside0.mk (Kr.R_lower hx0 (below_size (by repeat (first | (with_reducible first | exact HB.out | apply below_alloc | apply pw_below_drewN | apply below_drew1) | exact HB.out)))); have n1_ := Aside0.mk (below_step (by repeat (first | (with_reducible first | exact HB.out | apply below_alloc | apply pw_below_drewN | apply below_drew1) | exact HB.out)) hb); clear HB; have HO201 := n0_; have HX201 := xn0_; clear xn0_; have HB := n1_; clear n0_ n1_; (try clear hb); (try clear hb2); (try clear hk); (try clear hi); (try clear ho0); (try clear hx0); obtain ⟨Ao13, co13, eo13⟩ := Kr.R_slice HO201.out; subst eo13) | ((with_reducible refine gate_callee (f := 20) rfl ?_); refine goesL_ (some 15) rfl rfl Try.func20 (by kernel_rfl) rfl #[.slice Ao13 t199.length co13] rfl (by (try simp only [List.map_toArray, List.map_cons, List.map_nil]); first | done | rfl | (simp only [List.length_drop, List.length_take]; rfl)) ?_; (with_reducible refine (aid_Put.calls k _ _ t199 t202 t203 _ ?side1 ?side2 A4.out).mono ?_); (case side1 => repeat (first | exact (Kr.R_reads' HO201.out).2.2 | (with_reducible refine Kd.C_alloc ?_ _) | (with_reducible refine Kd.C_drewN ?_ _) | (with_reducible refine Kd.C_drew ?_))); (case side2 => exact (Kr.R_reads' HO201.out).2.1); rintro e w14 ⟨v204, rfl, ho0, hb⟩; refine ⟨_, rfl, ?_⟩; have n0_ := Aside0.mk (Kr.R_elder' (by (with_reducible repeat (first | apply Kr.R_alloc | apply Kr.R_drewN | apply Kr.R_drew)); exact HO201.out) (Kr.R_base ho0) hb); have xn0_ := Aside0.mk (Kr.R_elder' (by (with_reducible repeat (first | apply Kr.R_alloc | apply Kr.R_drewN | apply Kr.R_drew)); exact HX201.out) (Kr.R_base ho0) hb); have n1_ := Aside0.mk (Kr.R_lower (Kr.R_new' ho0 (Kr.R_lt (by (with_reducible repeat (first | apply Kr.R_alloc | apply Kr.R_drewN | apply Kr.R_drew)); exact HO201.out))) (below_size (by repeat (first | (with_reducible first | exact HB.out | apply below_alloc | apply pw_below_drewN | apply below_drew1) | exact HB.out)))); have n2_ := Aside0.mk (below_step (by repeat (first | (with_reducible first | exact HB.out | apply below_alloc | apply pw_below_drewN | apply below_drew1) | exact HB.out)) hb); clear HO201; clear HX201; clear HB; have HO201 := n0_; have HX201 := xn0_; clear xn0_; have HO205 := n1_; have HB := n2_; clear n0_ n1_ n2_; (try clear hb); (try clear hb2); (try clear hk); (try clear hi); (try clear ho0)) | ((with_reducible refine gate_callee (f := 22) rfl ?_); refine goesL_ (some 21) rfl rfl Try.func22 (by kernel_rfl) rfl #[.slice Ao13 t199.length co13, .int .i64 a1] rfl (by (try simp only [List.map_toArray, List.map_cons, List.map_nil]); first | done | rfl | (simp only [List.length_drop, List.length_take]; rfl)) ?_; (with_reducible refine (aid_Get.calls k _ _ t199 a1 t206 t207 t208 _ ?side1 ?side2 A5.out).mono ?_); (case side1 => repeat (first | exact (Kr.R_reads' HO201.out).2.2 | (with_reducible refine Kd.C_alloc ?_ _) | (with_reducible refine Kd.C_drewN ?_ _) | (with_reducible refine Kd.C_drew ?_))); (case side2 => exact (Kr.R_reads' HO201.out).2.1); rintro e w15 ⟨v209, rfl, ho0, hb⟩; refine ⟨_, rfl, ?_⟩; have n0_ := Aside0.mk (Kr.R_elder' (by (with_reducible repeat (first | apply Kr.R_alloc | apply Kr.R_drewN | apply Kr.R_drew)); exact HO201.out) (Kr.R_base ho0) hb); have xn0_ := Aside0.mk (Kr.R_elder' (by (with_reducible repeat (first | apply Kr.R_alloc | apply Kr.R_drewN | apply Kr.R_drew)); exact HX201.out) (Kr.R_base ho0) hb); have n1_ := Aside0.mk (Kr.R_elder' (by (with_reducible repeat (first | apply Kr.R_alloc | apply Kr.R_drewN | apply Kr.R_drew)); exact HO205.out) (Kr.R_base ho0) hb); have n2_ := Aside0.mk (Kr.R_lower (Kr.R_new' (Kr.R_new' ho0 (Kr.R_lt (by (with_reducible repeat (first | apply Kr.R_alloc | apply Kr.R_drewN | apply Kr.R_drew)); exact HO201.out))) (Kr.R_lt (by (with_reducible repeat (first | apply Kr.R_alloc | apply Kr.R_drewN | apply Kr.R_drew)); exact HO205.out))) (below_size (by repeat (first | (with_reducible first | exact HB.out | apply below_alloc | apply pw_below_drewN | apply below_drew1) | exact HB.out)))); have n3_ := Aside0.mk (below_step (by repeat (first | (with_reducible first | exact HB.out | apply below_alloc | apply pw_below_drewN | apply below_drew1) | exact HB.out)) hb); clear HO201; clear HX201; clear HO205; clear HB; have HO201 := n0_; have HX201 := xn0_; clear xn0_; have HO205 := n1_; have HO210 := n2_; have HB := n3_; clear n0_ n1_ n2_ n3_; (try clear hb); (try clear hb2); (try clear hk); (try clear hi); (try clear ho0); obtain ⟨Ao16, co16, eo16⟩ := Kr.R_slice HO205.out; subst eo16) | ((with_reducible refine gate_callee (f := 29) rfl ?_); refine goesL_ (some 26) rfl rfl Try.func29 (by kernel_rfl) rfl #[.slice Ao16 t202.length co16, .int .u8 1] rfl (by (try simp only [List.map_toArray, List.map_cons, List.map_nil]); first | done | rfl | (simp only [List.length_drop, List.length_take]; rfl)) ?_; (with_reducible refine (garderoberef00_Spoil.calls k (fun k_ => some k_ = (.slice Ao16 t202.length co16 : Value).ownBlock) (.slice Ao16 t202.length co16) t202 1 t211 w _ ?side1 ?side2 A6.out).mono ?_); (case side1 => repeat (first | (with_reducible first | exact HB.out | apply below_alloc | apply pw_below_drewN | apply below_drew1) | exact HB.out)); (case side2 => exact Kr.R_tight rfl HO205.out); rintro e w17 ⟨rfl, hy0, hb, hkp⟩; refine ⟨_, rfl, ?_⟩; have n0_ := Aside0.mk (Kr.R_mono (ok' := fun k_ => some k_ ≠ (.slice Ao16 t202.length co16 : Value).ownBlock ∧ some k_ ≠ (v209 : Value).ownBlock) (Kr.R_keptB (HO201.out) hkp (fun k_ hk_ hs_ => (hk_.1.2) hs_)) (fun k_ hk_ => ⟨hk_.1.1.2, hk_.1.2⟩)); have xn0_ := Aside0.mk (Kr.R_mono (ok' := fun k_ => some k_ ≠ (.slice Ao16 t202.length co16 : Value).ownBlock ∧ some k_ ≠ (v209 : Value).ownBlock) (Kr.R_keptB (HX201.out) hkp (fun k_ hk_ hs_ => (hk_.1.2) hs_)) (fun k_ hk_ => ⟨hk_.1.1.2, hk_.1.2⟩)); have n1_ := Aside0.mk (Kr.R_reok rfl hy0 (fun k_ e_ => HO205.out.1.1 k_ e_)); have n2_ := Aside0.mk (Kr.R_mono (ok' := fun k_ => some k_ ≠ (.slice Ao13 t199.length co13 : Value).ownBlock ∧ some k_ ≠ (.slice Ao16 t202.length co16 : Value).ownBlock) (Kr.R_keptB (HO210.out) hkp (fun k_ hk_ hs_ => (hk_.2) hs_)) (fun k_ hk_ => ⟨hk_.1.1.2, hk_.1.2⟩)); have n3_ := Aside0.mk (hb); clear HO201; clear HX201; clear HO205; clear HO210; clear HB; have HO201 := n0_; have HX201 := xn0_; clear xn0_; have HO205 := n1_; have HO210 := n2_; have HB := n3_; clear n0_ n1_ n2_ n3_; (try clear hb); (try clear hkp); (try clear hy0); obtain ⟨Ao18, co18, eo18⟩ := Kr.R_slice HO210.out; subst eo18) | ((with_reducible refine gate_callee (f := 29) rfl ?_); refine goesL_ (some 28) rfl rfl Try.func29 (by kernel_rfl) rfl #[.slice Ao18 t206.length co18, .int .u8 1] rfl (by (try simp only [List.map_toArray, List.map_cons, List.map_nil]); first | done | rfl | (simp only [List.length_drop, List.length_take]; rfl)) ?_; (with_reducible refine (garderoberef00_Spoil.calls k (fun k_ => some k_ = (.slice Ao18 t206.length co18 : Value).ownBlock) (.slice Ao18 t206.length co18) t206 1 t212 w _ ?side1 ?side2 A7.out).mono ?_); (case side1 => repeat (first | (with_reducible first | exact HB.out | apply below_alloc | apply pw_below_drewN | apply below_drew1) | exact HB.out)); (case side2 => exact Kr.R_tight rfl HO210.out); rintro e w19 ⟨rfl, hy0, hb, hkp⟩; refine ⟨_, rfl, ?_⟩; have n0_ := Aside0.mk (Kr.R_mono (ok' := fun k_ => some k_ ≠ (.slice Ao16 t202.length co16 : Value).ownBlock ∧ some k_ ≠ (.slice Ao18 t206.length co18 : Value).ownBlock) (Kr.R_keptB (HO201.out) hkp (fun k_ hk_ hs_ => (hk_.2) hs_)) (fun k_ hk_ => ⟨hk_.1.1, hk_.1.2⟩)); have xn0_ := Aside0.mk (Kr.R_mono (ok' := fun k_ => some k_ ≠ (.slice Ao16 t202.length co16 : Value).ownBlock ∧ some k_ ≠ (.slice Ao18 t206.length co18 : Value).ownBlock) (Kr.R_keptB (HX201.out) hkp (fun k_ hk_ hs_ => (hk_.2) hs_)) (fun k_ hk_ => ⟨hk_.1.1, hk_.1.2⟩)); have n1_ := Aside0.mk (Kr.R_mono (ok' := fun k_ => some k_ ≠ (.slice Ao13 t199.length co13 : Value).ownBlock ∧ some k_ ≠ (.slice Ao18 t206.length co18 : Value).ownBlock) (Kr.R_keptB (HO205.out) hkp (fun k_ hk_ hs_ => (hk_.2) hs_)) (fun k_ hk_ => ⟨hk_.1.1.2, hk_.1.2⟩)); have n2_ := Aside0.mk (Kr.R_reok rfl hy0 (fun k_ e_ => HO210.out.1.1 k_ e_)); have n3_ := Aside0.mk (hb); clear HO201; clear HX201; clear HO205; clear HO210; clear HB; have HO201 := n0_; have HX201 := xn0_; clear xn0_; have HO205 := n1_; have HO210 := n2_; have HB := n3_; clear n0_ n1_ n2_ n3_; (try clear hb); (try clear hkp); (try clear hy0)) | ((with_reducible refine gate_callee (f := 14) rfl ?_); refine goesL_ (some 31) rfl rfl Try.func14 (by kernel_rfl) rfl #[.slice Ao13 t199.length co13, .slice Ao13 t199.length co13] rfl (by (try simp only [List.map_toArray, List.map_cons, List.map_nil]); first | done | rfl | (simp only [List.length_drop, List.length_take]; rfl)) ?_; (with_reducible refine (aid_Issuer.calls _ _ t199 _ _ t199 t213 _ ?side1 ?side2 ?side3 ?side4 A8.out).mono ?_); (case side1 => repeat (first | exact (Kr.R_reads' HO201.out).2.2 | (with_reducible refine Kd.C_alloc ?_ _) | (with_reducible refine Kd.C_drewN ?_ _) | (with_reducible refine Kd.C_drew ?_))); (case side2 => exact (Kr.R_reads' HO201.out).2.1); (case side3 => repeat (first | exact (Kr.R_reads' HO201.out).2.2 | (with_reducible refine Kd.C_alloc ?_ _) | (with_reducible refine Kd.C_drewN ?_ _) | (with_reducible refine Kd.C_drew ?_))); (case side4 => exact (Kr.R_reads' HO201.out).2.1); rintro e w' ⟨rfl, ⟨nd, rfl⟩⟩; refine ⟨_, rfl, ?_⟩) | ((with_reducible refine gate_callee (f := 30) rfl ?_); refine goesL_ (some 34) rfl rfl Try.func30 (by kernel_rfl) rfl #[.slice Ao13 t199.length co13, .slice A0 l0.length c0] rfl (by (try simp only [List.map_toArray, List.map_cons, List.map_nil]); first | done | rfl | (simp only [List.length_drop, List.length_take]; rfl)) ?_; (with_reducible refine (garderoberef00_Left.calls k _ _ t199 _ _ l0 true _ ?side1 ?side2 ?side3 ?side4 ?side5 ?side6 A9.out).mono ?_); (case side1 => repeat (first | exact (Kr.R_reads' HO201.out).2.2 | (with_reducible refine Kd.C_alloc ?_ _) | (with_reducible refine Kd.C_drewN ?_ _) | (with_reducible refine Kd.C_drew ?_))); (case side2 => exact (Kr.R_reads' HO201.out).2.1); (case side3 => repeat (first | exact (Kd.C_below HR0.out (by repeat (first | (with_reducible first | exact HB.out | apply below_alloc | apply pw_below_drewN | apply below_drew1) | exact HB.out))) | (with_reducible refine Kd.C_alloc ?_ _) | (with_reducible refine Kd.C_drewN ?_ _) | (with_reducible refine Kd.C_drew ?_))); (case side4 => exact HC0.out); (case side5 => repeat (first | exact (Kr.long_reads HX201.out).1 | (with_reducible refine Kd.C_alloc ?_ _) | (with_reducible refine Kd.C_drewN ?_ _) | (with_reducible refine Kd.C_drew ?_))); (case side6 => exact (Kr.long_reads HX201.out).2); rintro e w' ⟨rfl, ⟨nd, rfl⟩⟩; refine ⟨_, rfl, ?_⟩) | (go_at_call 10; (with_reducible refine (garderobelaw03_works.calls k  t215 _ A11.out).mono ?_); rintro e w20 ⟨rfl, hb⟩; have n0_ := Aside0.mk (Kr.R_below (by (with_reducible repeat (first | apply Kr.R_alloc | apply Kr.R_drewN | apply Kr.R_drew)); exact HO201.out) hb); have xn0_ := Aside0.mk (Kr.R_below (by (with_reducible repeat (first | apply Kr.R_alloc | apply Kr.R_drewN | apply Kr.R_drew)); exact HX201.out) hb); have n1_ := Aside0.mk (Kr.R_below (by (with_reducible repeat (first | apply Kr.R_alloc | apply Kr.R_drewN | apply Kr.R_drew)); exact HO205.out) hb); have n2_ := Aside0.mk (Kr.R_below (by (with_reducible repeat (first | apply Kr.R_alloc | apply Kr.R_drewN | apply Kr.R_drew)); exact HO210.out) hb); have n3_ := Aside0.mk (below_step (by repeat (first | (with_reducible first | exact HB.out | apply below_alloc | apply pw_below_drewN | apply below_drew1) | exact HB.out)) hb); clear HO201; clear HX201; clear HO205; clear HO210; clear HB; have HO201 := n0_; have HX201 := xn0_; clear xn0_; have HO205 := n1_; have HO210 := n2_; have HB := n3_; clear n0_ n1_ n2_ n3_; (try clear hb); (try clear hb2); (try clear hk); (try clear hi)))
    go_ret
    exact ⟨by first | rfl | (simp [errW_none, errW_some] <;> rfl) | (simp [*, errW_none, errW_some] <;> rfl), by repeat (first | (with_reducible first | exact HB.out | apply below_alloc | apply pw_below_drewN | apply below_drew1) | exact HB.out)⟩
  · replace c10 := Bool.eq_false_iff.mpr c10
    subst c10
    have H1 : (none) = some r := by rw [if_neg (show ¬ (false = true) by decide)] at H; exact H
    clear H
    have H := H1
    clear H1
    exact absurd H (by simp)

/-- THE ONE PURE STATEMENT of garderobelaw03_AidFresh: yours. -/
def garderobelaw03_AidFresh.Pure : Prop := ∀ (l0 : List Int) (a1 : Int), l0.length ≤ maxLen → l0.length * 1 ≤ 140737488351232 → (∀ x ∈ l0, (Lit.int .u8 x).wf = true) → (Lit.int .i64 a1).wf = true → ∃ k, garderobelaw03_AidFresh.f k l0 a1 = some true
theorem garderobelaw03_AidFresh.walk (P : garderobelaw03_AidFresh.Pure) (a0 : Option Addr) (len0 cap0 : Nat) (z0 : List Int) (a1 : Int) (w : World) (w0 : (a0 = none ∧ len0 = 0 ∧ cap0 = 0 ∧ z0 = []) ∨ ∃ x, a0 = some x ∧ len0 ≤ cap0 ∧ cap0 ≤ maxLen ∧ z0.length = cap0 ∧ (∀ i, i < z0.length → w.cell? (x.add i) = some (.int .u8 (z0.getD i 0))) ∧ ∀ n ∈ z0, (Lit.int .u8 n).wf = true) (y0 : len0 * 1 ≤ 140737488351232) (w1 : (Lit.int .i64 a1).wf = true) :
    Calls Try.prog 8 #[.slice a0 len0 cap0, .int .i64 a1] w fun e w' => e = .returned (.bool true) ∧ Below w.heap.size w w' := by
  obtain ⟨l0, rfl, hr0, hm0, hw0, hc0⟩ := ReadsInt.ofRowC w0
  obtain ⟨k, h⟩ := P l0 a1 hm0 y0 hw0 w1
  refine (garderobelaw03_AidFresh.calls k _ _ l0 a1 true w (Kd.C_of_reads (d := (0 : Int)) (h1 := fun _ => rfl) hr0) hc0 h).mono ?_
  rintro e w' ⟨rfl, hd⟩
  exact ⟨rfl, hd⟩

end Go.Proofs.Ytdplpkngacfacaa.PAidFresh
