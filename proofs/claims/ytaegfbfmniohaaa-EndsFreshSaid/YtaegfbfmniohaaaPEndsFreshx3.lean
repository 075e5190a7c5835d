-- laid by fake.py, a program of this session's, over the kit's print
import Derived.Test.YtaegfbfmniohaaaPEndsFreshx0
import Derived.Test.YtaegfbfmniohaaaPEndsFreshx1
import Derived.Test.YtaegfbfmniohaaaPEndsFreshx2
namespace Go.Proofs.Ytaegfbfmniohaaa.PEndsFresh
open Go.RowKit Go.Proofs.YtaegfbfmniohaaaW.PrintWords Go.Proofs.YtaegfbfmniohaaaW.PrintLast Go.Proofs.YtaegfbfmniohaaaW.PrintMore Go.Proofs.YtaegfbfmniohaaaW.Mine
attribute [local go_sem] max2_int min2_int max_two min_two max_three min_three max_four min_four   -- for this text's walks alone
set_option linter.unusedVariables false
set_option linter.unusedSimpArgs false

/-! ### garderobelaw02_EndsFresh: function 8 -/
def garderobelaw02_EndsFresh.f (k : Nat) (l0 : List Int) (a1 : Int) (a2 : Int) : Option (Bool) := (garderoberef00_Copy.f l0).bind fun t175 => ((ends_Part.f k l0 a1 a2).bind fun bt178 => ((garderoberef00_Spoil.f k bt178.1 3).bind fun t182 => ((ends_PutRow.f k l0 2).bind fun bt183 => ((garderoberef00_Spoil.f k bt183.1 3).bind fun t187 => ((ends_Part.f k l0 a1 a2).bind fun bt188 => ((garderoberef02_Part.f k t175 a1 a2).bind fun bt192 => (if bt178.2 = bt188.2 then (if bt188.2 = bt192.2 then ((garderoberef00_Same.f k bt188.1 bt192.1).bind fun t196 => (if t196 = true then ((garderoberef00_Same.f k l0 t175).bind fun t197 => (if t197 = true then (if ((bt183.2 == 0) == (decide ((l0.length : Int) < 65536))) = true then ((garderobelaw02_lives.f k).bind fun t198 => (some t198)) else (none)) else (none))) else (none))) else (none)) else (none))))))))
theorem garderobelaw02_EndsFresh.mono : ∀ a0 a1 a2 k, LeO (garderobelaw02_EndsFresh.f k a0 a1 a2) (garderobelaw02_EndsFresh.f (k + 1) a0 a1 a2) := by
  intro a0 a1 a2 k
  unfold garderobelaw02_EndsFresh.f
  repeat' first
      | (with_reducible exact ends_Part.mono _ _ _ _)
      | (with_reducible exact ends_PutRow.mono _ _ _)
      | (with_reducible exact garderobelaw02_lives.mono _)
      | (with_reducible exact garderoberef00_Same.mono _ _ _)
      | (with_reducible exact garderoberef00_Spoil.mono _ _ _)
      | (with_reducible exact garderoberef02_Part.mono _ _ _ _)
      | (with_reducible exact LeO.refl _)
      | (with_reducible exact LeO.none _)
      | (with_reducible refine LeO.ite ?_ ?_)
      | (with_reducible refine LeO.bind ?_ (fun _ => ?_))
      | exact ends_Part.mono _ _ _ _
      | exact ends_PutRow.mono _ _ _
      | exact garderobelaw02_lives.mono _
      | exact garderoberef00_Same.mono _ _ _
      | exact garderoberef00_Spoil.mono _ _ _
      | exact garderoberef02_Part.mono _ _ _ _
      | exact LeO.none _
      | refine LeO.ite ?_ ?_
      | refine LeO.bind ?_ (fun _ => ?_)
set_option maxHeartbeats 8000000 in
set_option maxRecDepth 100000 in
theorem garderobelaw02_EndsFresh.calls (k : Nat) (A0 : Option Addr) (c0 : Nat) (l0 : List Int) (a1 : Int) (a2 : Int) (r : Bool) (w : World) (hr0 : Kd.C (Kd.int .u8) w A0 l0.length l0) (hc0 : l0.length ≤ c0) (h : garderobelaw02_EndsFresh.f k l0 a1 a2 = some r) :
    Calls Try.prog 8 #[.slice A0 l0.length c0, .int .i64 a1, .int .i64 a2] w fun e w' => e = .returned (.bool r) ∧ Below w.heap.size w w' := by
  have HR0 := Aside0.mk hr0
  have HC0 := Aside0.mk hc0
  clear hr0 hc0
  have HB := Aside0.mk (Below.refl w.heap.size w)
  have H : ((garderoberef00_Copy.f l0).bind fun t175 => ((ends_Part.f k l0 a1 a2).bind fun bt178 => ((garderoberef00_Spoil.f k bt178.1 3).bind fun t182 => ((ends_PutRow.f k l0 2).bind fun bt183 => ((garderoberef00_Spoil.f k bt183.1 3).bind fun t187 => ((ends_Part.f k l0 a1 a2).bind fun bt188 => ((garderoberef02_Part.f k t175 a1 a2).bind fun bt192 => (if bt178.2 = bt188.2 then (if bt188.2 = bt192.2 then ((garderoberef00_Same.f k bt188.1 bt192.1).bind fun t196 => (if t196 = true then ((garderoberef00_Same.f k l0 t175).bind fun t197 => (if t197 = true then (if ((bt183.2 == 0) == (decide ((l0.length : Int) < 65536))) = true then ((garderobelaw02_lives.f k).bind fun t198 => (some t198)) else (none)) else (none))) else (none))) else (none)) else (none))))))))) = some r := h
  clear h
  replace H := Option.bind_eq_some_iff.mp H
  obtain ⟨t175, A40, H⟩ := H
  replace H : ((ends_Part.f k l0 a1 a2).bind fun bt178 => ((garderoberef00_Spoil.f k bt178.1 3).bind fun t182 => ((ends_PutRow.f k l0 2).bind fun bt183 => ((garderoberef00_Spoil.f k bt183.1 3).bind fun t187 => ((ends_Part.f k l0 a1 a2).bind fun bt188 => ((garderoberef02_Part.f k t175 a1 a2).bind fun bt192 => (if bt178.2 = bt188.2 then (if bt188.2 = bt192.2 then ((garderoberef00_Same.f k bt188.1 bt192.1).bind fun t196 => (if t196 = true then ((garderoberef00_Same.f k l0 t175).bind fun t197 => (if t197 = true then (if ((bt183.2 == 0) == (decide ((l0.length : Int) < 65536))) = true then ((garderobelaw02_lives.f k).bind fun t198 => (some t198)) else (none)) else (none))) else (none))) else (none)) else (none)))))))) = some r := H
  have A4 := Aside0.mk A40
  clear A40
  replace H := Option.bind_eq_some_iff.mp H
  obtain ⟨⟨t178, t179⟩, A50, H⟩ := H
  replace H : ((garderoberef00_Spoil.f k t178 3).bind fun t182 => ((ends_PutRow.f k l0 2).bind fun bt183 => ((garderoberef00_Spoil.f k bt183.1 3).bind fun t187 => ((ends_Part.f k l0 a1 a2).bind fun bt188 => ((garderoberef02_Part.f k t175 a1 a2).bind fun bt192 => (if t179 = bt188.2 then (if bt188.2 = bt192.2 then ((garderoberef00_Same.f k bt188.1 bt192.1).bind fun t196 => (if t196 = true then ((garderoberef00_Same.f k l0 t175).bind fun t197 => (if t197 = true then (if ((bt183.2 == 0) == (decide ((l0.length : Int) < 65536))) = true then ((garderobelaw02_lives.f k).bind fun t198 => (some t198)) else (none)) else (none))) else (none))) else (none)) else (none))))))) = some r := H
  have A5 := Aside0.mk A50
  clear A50
  replace H := Option.bind_eq_some_iff.mp H
  obtain ⟨t182, A60, H⟩ := H
  replace H : ((ends_PutRow.f k l0 2).bind fun bt183 => ((garderoberef00_Spoil.f k bt183.1 3).bind fun t187 => ((ends_Part.f k l0 a1 a2).bind fun bt188 => ((garderoberef02_Part.f k t175 a1 a2).bind fun bt192 => (if t179 = bt188.2 then (if bt188.2 = bt192.2 then ((garderoberef00_Same.f k bt188.1 bt192.1).bind fun t196 => (if t196 = true then ((garderoberef00_Same.f k l0 t175).bind fun t197 => (if t197 = true then (if ((bt183.2 == 0) == (decide ((l0.length : Int) < 65536))) = true then ((garderobelaw02_lives.f k).bind fun t198 => (some t198)) else (none)) else (none))) else (none))) else (none)) else (none)))))) = some r := H
  have A6 := Aside0.mk A60
  clear A60
  replace H := Option.bind_eq_some_iff.mp H
  obtain ⟨⟨t183, t184⟩, A70, H⟩ := H
  replace H : ((garderoberef00_Spoil.f k t183 3).bind fun t187 => ((ends_Part.f k l0 a1 a2).bind fun bt188 => ((garderoberef02_Part.f k t175 a1 a2).bind fun bt192 => (if t179 = bt188.2 then (if bt188.2 = bt192.2 then ((garderoberef00_Same.f k bt188.1 bt192.1).bind fun t196 => (if t196 = true then ((garderoberef00_Same.f k l0 t175).bind fun t197 => (if t197 = true then (if ((t184 == 0) == (decide ((l0.length : Int) < 65536))) = true then ((garderobelaw02_lives.f k).bind fun t198 => (some t198)) else (none)) else (none))) else (none))) else (none)) else (none))))) = some r := H
  have A7 := Aside0.mk A70
  clear A70
  replace H := Option.bind_eq_some_iff.mp H
  obtain ⟨t187, A80, H⟩ := H
  replace H : ((ends_Part.f k l0 a1 a2).bind fun bt188 => ((garderoberef02_Part.f k t175 a1 a2).bind fun bt192 => (if t179 = bt188.2 then (if bt188.2 = bt192.2 then ((garderoberef00_Same.f k bt188.1 bt192.1).bind fun t196 => (if t196 = true then ((garderoberef00_Same.f k l0 t175).bind fun t197 => (if t197 = true then (if ((t184 == 0) == (decide ((l0.length : Int) < 65536))) = true then ((garderobelaw02_lives.f k).bind fun t198 => (some t198)) else (none)) else (none))) else (none))) else (none)) else (none)))) = some r := H
  have A8 := Aside0.mk A80
  clear A80
  replace H := Option.bind_eq_some_iff.mp H
  obtain ⟨⟨t188, t189⟩, A90, H⟩ := H
  replace H : ((garderoberef02_Part.f k t175 a1 a2).bind fun bt192 => (if t179 = t189 then (if t189 = bt192.2 then ((garderoberef00_Same.f k t188 bt192.1).bind fun t196 => (if t196 = true then ((garderoberef00_Same.f k l0 t175).bind fun t197 => (if t197 = true then (if ((t184 == 0) == (decide ((l0.length : Int) < 65536))) = true then ((garderobelaw02_lives.f k).bind fun t198 => (some t198)) else (none)) else (none))) else (none))) else (none)) else (none))) = some r := H
  have A9 := Aside0.mk A90
  clear A90
  replace H := Option.bind_eq_some_iff.mp H
  obtain ⟨⟨t192, t193⟩, A100, H⟩ := H
  replace H : (if t179 = t189 then (if t189 = t193 then ((garderoberef00_Same.f k t188 t192).bind fun t196 => (if t196 = true then ((garderoberef00_Same.f k l0 t175).bind fun t197 => (if t197 = true then (if ((t184 == 0) == (decide ((l0.length : Int) < 65536))) = true then ((garderobelaw02_lives.f k).bind fun t198 => (some t198)) else (none)) else (none))) else (none))) else (none)) else (none)) = some r := H
  have A10 := Aside0.mk A100
  clear A100
  by_cases c11 : t179 = t189
  · rw [if_pos c11] at H
    have c11b0 : (t179 == t189) = true := beq_iff_eq.mpr c11
    have c11b1 : (t179 != t189) = false := bne_eq_false_iff_eq.mpr c11
    clear c11
    by_cases c12 : t189 = t193
    · rw [if_pos c12] at H
      have c12b0 : (t189 == t193) = true := beq_iff_eq.mpr c12
      have c12b1 : (t189 != t193) = false := bne_eq_false_iff_eq.mpr c12
      clear c12
      replace H := Option.bind_eq_some_iff.mp H
      obtain ⟨t196, A130, H⟩ := H
      replace H : (if t196 = true then ((garderoberef00_Same.f k l0 t175).bind fun t197 => (if t197 = true then (if ((t184 == 0) == (decide ((l0.length : Int) < 65536))) = true then ((garderobelaw02_lives.f k).bind fun t198 => (some t198)) else (none)) else (none))) else (none)) = some r := H
      have A13 := Aside0.mk A130
      clear A130
      by_cases c14 : t196 = true
      · subst c14
        have H1 : ((garderoberef00_Same.f k l0 t175).bind fun t197 => (if t197 = true then (if ((t184 == 0) == (decide ((l0.length : Int) < 65536))) = true then ((garderobelaw02_lives.f k).bind fun t198 => (some t198)) else (none)) else (none))) = some r := by rw [if_pos rfl] at H; exact H
        clear H
        have H := H1
        clear H1
        replace H := Option.bind_eq_some_iff.mp H
        obtain ⟨t197, A150, H⟩ := H
        replace H : (if t197 = true then (if ((t184 == 0) == (decide ((l0.length : Int) < 65536))) = true then ((garderobelaw02_lives.f k).bind fun t198 => (some t198)) else (none)) else (none)) = some r := H
        have A15 := Aside0.mk A150
        clear A150
        by_cases c16 : t197 = true
        · subst c16
          have H1 : (if ((t184 == 0) == (decide ((l0.length : Int) < 65536))) = true then ((garderobelaw02_lives.f k).bind fun t198 => (some t198)) else (none)) = some r := by rw [if_pos rfl] at H; exact H
          clear H
          have H := H1
          clear H1
          by_cases c17 : ((t184 == 0) == (decide ((l0.length : Int) < 65536))) = true
          · rw [if_pos c17] at H
            have c17b0 : ((t184 == 0) == (decide ((l0.length : Int) < 65536))) = true := c17
            (try (have c17b1 : decide ((t184 == 0) = (decide ((l0.length : Int) < 65536))) = true := by simpa using c17))
            (try (have c17b2 : ((t184 == 0) == (decide ((l0.length : Int) < 65536))) = true := by simpa using c17))
            clear c17
            replace H := Option.bind_eq_some_iff.mp H
            obtain ⟨t198, A180, H⟩ := H
            replace H : (some t198) = some r := H
            have A18 := Aside0.mk A180
            clear A180
            obtain rfl := Option.some.inj H
            go_enter Try.func8, Try.ntmps8
            go_wp2_with (first | ((with_reducible refine gate_callee (f := 23) rfl ?_); refine goesL_ (some 17) rfl rfl Try.func23 (by kernel_rfl) rfl #[.slice A0 l0.length c0] rfl (by (try simp only [List.map_toArray, List.map_cons, List.map_nil]); first | done | rfl | (simp only [List.length_drop, List.length_take]; rfl)) ?_; (with_reducible refine (garderoberef00_Copy.calls _ _ l0 t175 _ ?side1 ?side2 A4.out).mono ?_); (case side1 => repeat (first | exact HR0.out | (with_reducible refine Kd.C_alloc ?_ _) | (with_reducible refine Kd.C_drewN ?_ _) | (with_reducible refine Kd.C_drew ?_))); (case side2 => exact HC0.out); rintro e w19 ⟨v176, rfl, ho0, hb⟩; refine ⟨_, rfl, ?_⟩; have n0_ := Aside0.mk (Kr.R_lower ho0 (below_size (by repeat (first | (with_reducible first | exact HB.out | apply below_alloc | apply pw_below_drewN | apply below_drew1) | exact HB.out)))); have n1_ := Aside0.mk (below_step (by repeat (first | (with_reducible first | exact HB.out | apply below_alloc | apply pw_below_drewN | apply below_drew1) | exact HB.out)) hb); clear HB; have HO177 := n0_; have HB := n1_; clear n0_ n1_; (try clear hb); (try clear hb2); (try clear hk); (try clear hi); (try clear ho0)) | ((with_reducible refine gate_callee (f := 16) rfl ?_); refine goesL_ (some 22) rfl rfl Try.func16 (by kernel_rfl) rfl #[.slice A0 l0.length c0, .int .i64 a1, .int .i64 a2] rfl (by (try simp only [List.map_toArray, List.map_cons, List.map_nil]); first | done | rfl | (simp only [List.length_drop, List.length_take]; rfl)) ?_; (with_reducible refine (ends_Part.calls k _ _ l0 a1 a2 t178 t179 _ ?side1 ?side2 A5.out).mono ?_); (case side1 => repeat (first | exact (Kd.C_below HR0.out HB.out) | (with_reducible refine Kd.C_alloc ?_ _) | (with_reducible refine Kd.C_drewN ?_ _) | (with_reducible refine Kd.C_drew ?_))); (case side2 => exact HC0.out); rintro e w20 ⟨v180, rfl, ho0, hb⟩; refine ⟨_, rfl, ?_⟩; have n0_ := Aside0.mk (Kr.R_elder' (by (with_reducible repeat (first | apply Kr.R_alloc | apply Kr.R_drewN | apply Kr.R_drew)); exact HO177.out) (Kr.R_base ho0) hb); have n1_ := Aside0.mk (Kr.R_lower (Kr.R_new' ho0 (Kr.R_lt (by (with_reducible repeat (first | apply Kr.R_alloc | apply Kr.R_drewN | apply Kr.R_drew)); exact HO177.out))) (below_size (by repeat (first | (with_reducible first | exact HB.out | apply below_alloc | apply pw_below_drewN | apply below_drew1) | exact HB.out)))); have n2_ := Aside0.mk (below_step (by repeat (first | (with_reducible first | exact HB.out | apply below_alloc | apply pw_below_drewN | apply below_drew1) | exact HB.out)) hb); clear HO177; clear HB; have HO177 := n0_; have HO181 := n1_; have HB := n2_; clear n0_ n1_ n2_; (try clear hb); (try clear hb2); (try clear hk); (try clear hi); (try clear ho0); obtain ⟨Ao21, co21, eo21⟩ := Kr.R_slice HO181.out; subst eo21) | ((with_reducible refine gate_callee (f := 24) rfl ?_); refine goesL_ (some 26) rfl rfl Try.func24 (by kernel_rfl) rfl #[.slice Ao21 t178.length co21, .int .u8 3] rfl (by (try simp only [List.map_toArray, List.map_cons, List.map_nil]); first | done | rfl | (simp only [List.length_drop, List.length_take]; rfl)) ?_; (with_reducible refine (garderoberef00_Spoil.calls k (fun k_ => some k_ = (.slice Ao21 t178.length co21 : Value).ownBlock) (.slice Ao21 t178.length co21) t178 3 t182 w _ ?side1 ?side2 A6.out).mono ?_); (case side1 => repeat (first | (with_reducible first | exact HB.out | apply below_alloc | apply pw_below_drewN | apply below_drew1) | exact HB.out)); (case side2 => exact Kr.R_tight rfl HO181.out); rintro e w22 ⟨rfl, hy0, hb, hkp⟩; refine ⟨_, rfl, ?_⟩; have n0_ := Aside0.mk (Kr.R_mono (ok' := fun k_ => some k_ ≠ (.slice Ao21 t178.length co21 : Value).ownBlock) (Kr.R_keptB (HO177.out) hkp (fun k_ hk_ hs_ => (hk_.2) hs_)) (fun k_ hk_ => hk_.1.2)); have n1_ := Aside0.mk (Kr.R_reok rfl hy0 (fun k_ e_ => HO181.out.1.1 k_ e_)); have n2_ := Aside0.mk (hb); clear HO177; clear HO181; clear HB; have HO177 := n0_; have HO181 := n1_; have HB := n2_; clear n0_ n1_ n2_; (try clear hb); (try clear hkp); (try clear hy0)) | ((with_reducible refine gate_callee (f := 19) rfl ?_); refine goesL_ (some 29) rfl rfl Try.func19 (by kernel_rfl) rfl #[.slice A0 l0.length c0, .int .i64 2] rfl (by (try simp only [List.map_toArray, List.map_cons, List.map_nil]); first | done | rfl | (simp only [List.length_drop, List.length_take]; rfl)) ?_; (with_reducible refine (ends_PutRow.calls k _ _ l0 2 t183 t184 _ ?side1 ?side2 A7.out).mono ?_); (case side1 => repeat (first | exact (Kd.C_below HR0.out HB.out) | (with_reducible refine Kd.C_alloc ?_ _) | (with_reducible refine Kd.C_drewN ?_ _) | (with_reducible refine Kd.C_drew ?_))); (case side2 => exact HC0.out); rintro e w23 ⟨v185, rfl, ho0, hb⟩; refine ⟨_, rfl, ?_⟩; have n0_ := Aside0.mk (Kr.R_elder' (by (with_reducible repeat (first | apply Kr.R_alloc | apply Kr.R_drewN | apply Kr.R_drew)); exact HO177.out) (Kr.R_base ho0) hb); have n1_ := Aside0.mk (Kr.R_elder' (by (with_reducible repeat (first | apply Kr.R_alloc | apply Kr.R_drewN | apply Kr.R_drew)); exact HO181.out) (Kr.R_base ho0) hb); have n2_ := Aside0.mk (Kr.R_lower (Kr.R_new' (Kr.R_new' ho0 (Kr.R_lt (by (with_reducible repeat (first | apply Kr.R_alloc | apply Kr.R_drewN | apply Kr.R_drew)); exact HO177.out))) (Kr.R_lt (by (with_reducible repeat (first | apply Kr.R_alloc | apply Kr.R_drewN | apply Kr.R_drew)); exact HO181.out))) (below_size (by repeat (first | (with_reducible first | exact HB.out | apply below_alloc | apply pw_below_drewN | apply below_drew1) | exact HB.out)))); have n3_ := Aside0.mk (below_step (by repeat (first | (with_reducible first | exact HB.out | apply below_alloc | apply pw_below_drewN | apply below_drew1) | exact HB.out)) hb); clear HO177; clear HO181; clear HB; have HO177 := n0_; have HO181 := n1_; have HO186 := n2_; have HB := n3_; clear n0_ n1_ n2_ n3_; (try clear hb); (try clear hb2); (try clear hk); (try clear hi); (try clear ho0); obtain ⟨Ao24, co24, eo24⟩ := Kr.R_slice HO186.out; subst eo24) | ((with_reducible refine gate_callee (f := 24) rfl ?_); refine goesL_ (some 33) rfl rfl Try.func24 (by kernel_rfl) rfl #[.slice Ao24 t183.length co24, .int .u8 3] rfl (by (try simp only [List.map_toArray, List.map_cons, List.map_nil]); first | done | rfl | (simp only [List.length_drop, List.length_take]; rfl)) ?_; (with_reducible refine (garderoberef00_Spoil.calls k (fun k_ => some k_ = (.slice Ao24 t183.length co24 : Value).ownBlock) (.slice Ao24 t183.length co24) t183 3 t187 w _ ?side1 ?side2 A8.out).mono ?_); (case side1 => repeat (first | (with_reducible first | exact HB.out | apply below_alloc | apply pw_below_drewN | apply below_drew1) | exact HB.out)); (case side2 => exact Kr.R_tight rfl HO186.out); rintro e w25 ⟨rfl, hy0, hb, hkp⟩; refine ⟨_, rfl, ?_⟩; have n0_ := Aside0.mk (Kr.R_mono (ok' := fun k_ => some k_ ≠ (.slice Ao21 t178.length co21 : Value).ownBlock ∧ some k_ ≠ (.slice Ao24 t183.length co24 : Value).ownBlock) (Kr.R_keptB (HO177.out) hkp (fun k_ hk_ hs_ => (hk_.2) hs_)) (fun k_ hk_ => ⟨hk_.1.1, hk_.1.2⟩)); have n1_ := Aside0.mk (Kr.R_mono (ok' := fun k_ => some k_ ≠ (v176 : Value).ownBlock ∧ some k_ ≠ (.slice Ao24 t183.length co24 : Value).ownBlock) (Kr.R_keptB (HO181.out) hkp (fun k_ hk_ hs_ => (hk_.2) hs_)) (fun k_ hk_ => ⟨hk_.1.1.2, hk_.1.2⟩)); have n2_ := Aside0.mk (Kr.R_reok rfl hy0 (fun k_ e_ => HO186.out.1.1 k_ e_)); have n3_ := Aside0.mk (hb); clear HO177; clear HO181; clear HO186; clear HB; have HO177 := n0_; have HO181 := n1_; have HO186 := n2_; have HB := n3_; clear n0_ n1_ n2_ n3_; (try clear hb); (try clear hkp); (try clear hy0)) | ((with_reducible refine gate_callee (f := 16) rfl ?_); refine goesL_ (some 38) rfl rfl Try.func16 (by kernel_rfl) rfl #[.slice A0 l0.length c0, .int .i64 a1, .int .i64 a2] rfl (by (try simp only [List.map_toArray, List.map_cons, List.map_nil]); first | done | rfl | (simp only [List.length_drop, List.length_take]; rfl)) ?_; (with_reducible refine (ends_Part.calls k _ _ l0 a1 a2 t188 t189 _ ?side1 ?side2 A9.out).mono ?_); (case side1 => repeat (first | exact (Kd.C_below HR0.out HB.out) | (with_reducible refine Kd.C_alloc ?_ _) | (with_reducible refine Kd.C_drewN ?_ _) | (with_reducible refine Kd.C_drew ?_))); (case side2 => exact HC0.out); rintro e w26 ⟨v190, rfl, ho0, hb⟩; refine ⟨_, rfl, ?_⟩; have n0_ := Aside0.mk (Kr.R_elder' (by (with_reducible repeat (first | apply Kr.R_alloc | apply Kr.R_drewN | apply Kr.R_drew)); exact HO177.out) (Kr.R_base ho0) hb); have n1_ := Aside0.mk (Kr.R_elder' (by (with_reducible repeat (first | apply Kr.R_alloc | apply Kr.R_drewN | apply Kr.R_drew)); exact HO181.out) (Kr.R_base ho0) hb); have n2_ := Aside0.mk (Kr.R_elder' (by (with_reducible repeat (first | apply Kr.R_alloc | apply Kr.R_drewN | apply Kr.R_drew)); exact HO186.out) (Kr.R_base ho0) hb); have n3_ := Aside0.mk (Kr.R_lower (Kr.R_new' (Kr.R_new' (Kr.R_new' ho0 (Kr.R_lt (by (with_reducible repeat (first | apply Kr.R_alloc | apply Kr.R_drewN | apply Kr.R_drew)); exact HO177.out))) (Kr.R_lt (by (with_reducible repeat (first | apply Kr.R_alloc | apply Kr.R_drewN | apply Kr.R_drew)); exact HO181.out))) (Kr.R_lt (by (with_reducible repeat (first | apply Kr.R_alloc | apply Kr.R_drewN | apply Kr.R_drew)); exact HO186.out))) (below_size (by repeat (first | (with_reducible first | exact HB.out | apply below_alloc | apply pw_below_drewN | apply below_drew1) | exact HB.out)))); have n4_ := Aside0.mk (below_step (by repeat (first | (with_reducible first | exact HB.out | apply below_alloc | apply pw_below_drewN | apply below_drew1) | exact HB.out)) hb); clear HO177; clear HO181; clear HO186; clear HB; have HO177 := n0_; have HO181 := n1_; have HO186 := n2_; have HO191 := n3_; have HB := n4_; clear n0_ n1_ n2_ n3_ n4_; (try clear hb); (try clear hb2); (try clear hk); (try clear hi); (try clear ho0); obtain ⟨Ao27, co27, eo27⟩ := Kr.R_slice HO177.out; subst eo27) | ((with_reducible refine gate_callee (f := 17) rfl ?_); refine goesL_ (some 45) rfl rfl Try.func17 (by kernel_rfl) rfl #[.slice Ao27 t175.length co27, .int .i64 a1, .int .i64 a2] rfl (by (try simp only [List.map_toArray, List.map_cons, List.map_nil]); first | done | rfl | (simp only [List.length_drop, List.length_take]; rfl)) ?_; (with_reducible refine (garderoberef02_Part.calls k _ _ t175 a1 a2 t192 t193 _ ?side1 ?side2 A10.out).mono ?_); (case side1 => repeat (first | exact (Kr.R_reads' HO177.out).2.2 | (with_reducible refine Kd.C_alloc ?_ _) | (with_reducible refine Kd.C_drewN ?_ _) | (with_reducible refine Kd.C_drew ?_))); (case side2 => exact (Kr.R_reads' HO177.out).2.1); rintro e w28 ⟨v194, rfl, ho0, hb⟩; refine ⟨_, rfl, ?_⟩; have n0_ := Aside0.mk (Kr.R_elder' (by (with_reducible repeat (first | apply Kr.R_alloc | apply Kr.R_drewN | apply Kr.R_drew)); exact HO177.out) (Kr.R_base ho0) hb); have n1_ := Aside0.mk (Kr.R_elder' (by (with_reducible repeat (first | apply Kr.R_alloc | apply Kr.R_drewN | apply Kr.R_drew)); exact HO181.out) (Kr.R_base ho0) hb); have n2_ := Aside0.mk (Kr.R_elder' (by (with_reducible repeat (first | apply Kr.R_alloc | apply Kr.R_drewN | apply Kr.R_drew)); exact HO186.out) (Kr.R_base ho0) hb); have n3_ := Aside0.mk (Kr.R_elder' (by (with_reducible repeat (first | apply Kr.R_alloc | apply Kr.R_drewN | apply Kr.R_drew)); exact HO191.out) (Kr.R_base ho0) hb); have n4_ := Aside0.mk (Kr.R_lower (Kr.R_new' (Kr.R_new' (Kr.R_new' (Kr.R_new' ho0 (Kr.R_lt (by (with_reducible repeat (first | apply Kr.R_alloc | apply Kr.R_drewN | apply Kr.R_drew)); exact HO177.out))) (Kr.R_lt (by (with_reducible repeat (first | apply Kr.R_alloc | apply Kr.R_drewN | apply Kr.R_drew)); exact HO181.out))) (Kr.R_lt (by (with_reducible repeat (first | apply Kr.R_alloc | apply Kr.R_drewN | apply Kr.R_drew)); exact HO186.out))) (Kr.R_lt (by (with_reducible repeat (first | apply Kr.R_alloc | apply Kr.R_drewN | apply Kr.R_drew)); exact HO191.out))) (below_size (by repeat (first | (with_reducible first | exact HB.out | apply below_alloc | apply pw_below_drewN | apply below_drew1) | exact HB.out)))); have n5_ := Aside0.mk (below_step (by repeat (first | (with_reducible first | exact HB.out | apply below_alloc | apply pw_below_drewN | apply below_drew1) | exact HB.out)) hb); clear HO177; clear HO181; clear HO186; clear HO191; clear HB; have HO177 := n0_; have HO181 := n1_; have HO186 := n2_; have HO191 := n3_; have HO195 := n4_; have HB := n5_; clear n0_ n1_ n2_ n3_ n4_ n5_; (try clear hb); (try clear hb2); (try clear hk); (try clear hi); (try clear ho0); obtain ⟨Ao29, co29, eo29⟩ := Kr.R_slice HO191.out; subst eo29; obtain ⟨Ao30, co30, eo30⟩ := Kr.R_slice HO195.out; subst eo30) | (go_at_call 11; (with_reducible refine (garderoberef00_Same.calls k _ _ t188 _ _ t192 true _ ?side1 ?side2 ?side3 ?side4 A13.out).mono ?_); (case side1 => repeat (first | exact (Kr.R_reads' HO191.out).2.2 | (with_reducible refine Kd.C_alloc ?_ _) | (with_reducible refine Kd.C_drewN ?_ _) | (with_reducible refine Kd.C_drew ?_))); (case side2 => exact (Kr.R_reads' HO191.out).2.1); (case side3 => repeat (first | exact (Kr.R_reads' HO195.out).2.2 | (with_reducible refine Kd.C_alloc ?_ _) | (with_reducible refine Kd.C_drewN ?_ _) | (with_reducible refine Kd.C_drew ?_))); (case side4 => exact (Kr.R_reads' HO195.out).2.1); rintro e w' ⟨rfl, ⟨nd, rfl⟩⟩) | (go_at_call 11; (with_reducible refine (garderoberef00_Same.calls k _ _ l0 _ _ t175 true _ ?side1 ?side2 ?side3 ?side4 A15.out).mono ?_); (case side1 => repeat (first | exact (Kd.C_below HR0.out (by repeat (first | (with_reducible first | exact HB.out | apply below_alloc | apply pw_below_drewN | apply below_drew1) | exact HB.out))) | (with_reducible refine Kd.C_alloc ?_ _) | (with_reducible refine Kd.C_drewN ?_ _) | (with_reducible refine Kd.C_drew ?_))); (case side2 => exact HC0.out); (case side3 => repeat (first | exact (Kr.R_reads' HO177.out).2.2 | (with_reducible refine Kd.C_alloc ?_ _) | (with_reducible refine Kd.C_drewN ?_ _) | (with_reducible refine Kd.C_drew ?_))); (case side4 => exact (Kr.R_reads' HO177.out).2.1); rintro e w' ⟨rfl, ⟨nd, rfl⟩⟩) | (go_at_call 12; (with_reducible refine (garderobelaw02_lives.calls k  t198 _ A18.out).mono ?_); rintro e w31 ⟨rfl, hb⟩; have n0_ := Aside0.mk (Kr.R_below (by (with_reducible repeat (first | apply Kr.R_alloc | apply Kr.R_drewN | apply Kr.R_drew)); exact HO177.out) hb); have n1_ := Aside0.mk (Kr.R_below (by (with_reducible repeat (first | apply Kr.R_alloc | apply Kr.R_drewN | apply Kr.R_drew)); exact HO181.out) hb); have n2_ := Aside0.mk (Kr.R_below (by (with_reducible repeat (first | apply Kr.R_alloc | apply Kr.R_drewN | apply Kr.R_drew)); exact HO186.out) hb); have n3_ := Aside0.mk (Kr.R_below (by (with_reducible repeat (first | apply Kr.R_alloc | apply Kr.R_drewN | apply Kr.R_drew)); exact HO191.out) hb); have n4_ := Aside0.mk (Kr.R_below (by (with_reducible repeat (first | apply Kr.R_alloc | apply Kr.R_drewN | apply Kr.R_drew)); exact HO195.out) hb); have n5_ := Aside0.mk (below_step (by repeat (first | (with_reducible first | exact HB.out | apply below_alloc | apply pw_below_drewN | apply below_drew1) | exact HB.out)) hb); clear HO177; clear HO181; clear HO186; clear HO191; clear HO195; clear HB; have HO177 := n0_; have HO181 := n1_; have HO186 := n2_; have HO191 := n3_; have HO195 := n4_; have HB := n5_; clear n0_ n1_ n2_ n3_ n4_ n5_; (try clear hb); (try clear hb2); (try clear hk); (try clear hi)))
            go_ret
            exact ⟨by first | rfl | (simp [errW_none, errW_some] <;> rfl) | (simp [*, errW_none, errW_some] <;> rfl), by repeat (first | (with_reducible first | exact HB.out | apply below_alloc | apply pw_below_drewN | apply below_drew1) | exact HB.out)⟩
          · rw [if_neg c17] at H
            exact absurd H (by simp)
        · replace c16 := Bool.eq_false_iff.mpr c16
          subst c16
          have H1 : (none) = some r := by rw [if_neg (show ¬ (false = true) by decide)] at H; exact H
          clear H
          have H := H1
          clear H1
          exact absurd H (by simp)
      · replace c14 := Bool.eq_false_iff.mpr c14
        subst c14
        have H1 : (none) = some r := by rw [if_neg (show ¬ (false = true) by decide)] at H; exact H
        clear H
        have H := H1
        clear H1
        exact absurd H (by simp)
    · rw [if_neg c12] at H
      exact absurd H (by simp)
  · rw [if_neg c11] at H
    exact absurd H (by simp)

/-- THE ONE PURE STATEMENT of garderobelaw02_EndsFresh: yours. -/
def garderobelaw02_EndsFresh.Pure : Prop := ∀ (l0 : List Int) (a1 : Int) (a2 : Int), l0.length ≤ maxLen → l0.length * 1 ≤ 140737488351232 → (∀ x ∈ l0, (Lit.int .u8 x).wf = true) → (Lit.int .i64 a1).wf = true → (Lit.int .i64 a2).wf = true → ∃ k, garderobelaw02_EndsFresh.f k l0 a1 a2 = some true
theorem garderobelaw02_EndsFresh.walk (P : garderobelaw02_EndsFresh.Pure) (a0 : Option Addr) (len0 cap0 : Nat) (z0 : List Int) (a1 : Int) (a2 : Int) (w : World) (w0 : (a0 = none ∧ len0 = 0 ∧ cap0 = 0 ∧ z0 = []) ∨ ∃ x, a0 = some x ∧ len0 ≤ cap0 ∧ cap0 ≤ maxLen ∧ z0.length = cap0 ∧ (∀ i, i < z0.length → w.cell? (x.add i) = some (.int .u8 (z0.getD i 0))) ∧ ∀ n ∈ z0, (Lit.int .u8 n).wf = true) (y0 : len0 * 1 ≤ 140737488351232) (w1 : (Lit.int .i64 a1).wf = true) (w2 : (Lit.int .i64 a2).wf = true) :
    Calls Try.prog 8 #[.slice a0 len0 cap0, .int .i64 a1, .int .i64 a2] w fun e w' => e = .returned (.bool true) ∧ Below w.heap.size w w' := by
  obtain ⟨l0, rfl, hr0, hm0, hw0, hc0⟩ := ReadsInt.ofRowC w0
  obtain ⟨k, h⟩ := P l0 a1 a2 hm0 y0 hw0 w1 w2
  refine (garderobelaw02_EndsFresh.calls k _ _ l0 a1 a2 true w (Kd.C_of_reads (d := (0 : Int)) (h1 := fun _ => rfl) hr0) hc0 h).mono ?_
  rintro e w' ⟨rfl, hd⟩
  exact ⟨rfl, hd⟩

end Go.Proofs.Ytaegfbfmniohaaa.PEndsFresh
