/- Entries are refused, if one is; each stands by itself: for all entries. -/
import Derived.Test.YtechlmlokgjlnaaEPoolOne
import Derived.Test.YtechlmlokgjlnaaQPoolOne
set_option linter.unusedSimpArgs false
set_option linter.unusedVariables false
namespace Go.Proofs.Ytechlmlokgjlnaa.Pure
open Go Go.RowKit Go.Proofs.YtechlmlokgjlnaaW.Mine Go.Proofs.Ytechlmlokgjlnaa.PPoolOne Go.Proofs.YtechlmlokgjlnaaW.PrintWords Go.Proofs.YtechlmlokgjlnaaW.PrintLast Go.Proofs.YtechlmlokgjlnaaW.Spec Go.Proofs.Ytechlmlokgjlnaa.EPoolOne

theorem works_PoolOne (k : Nat) : garderobelaw07_works.f k = some true := by
  show garderobelaw07_works.f 0 = some true
  decide +kernel
theorem putOne (e : S43) : putP [e] = if mayE e = true then (0 :: 1 :: encE e, 0) else ([], 2) := by
  by_cases h : mayE e = true
  · simp [putP, h]
  · simp [putP, h]
theorem cutOne (l : List S43) (i : Nat) (h : i < l.length) : (l.take (i + 1)).drop i = [l[i]] := by
  rw [List.drop_take, List.drop_eq_getElem_cons h, show i + 1 - i = 1 from by omega]
  rfl
theorem loopOne (l : List S43) (hk : ∀ e ∈ l, okE e) (hn : l.length ≤ 14073748835532) (x3 : List Int) (x4 : Int) (h3 : x3.length ≤ 1022) : ∀ (d k i : Nat) (b : Bool) (acc : List Int), i + d = l.length → acc.length ≤ 4 * i → d + 1100 < k →
    (if (b && (l.drop i).all mayE) = true then (if l.length > 255 then x4 = 3 else x4 = 0 ∧ 2 ≤ x3.length ∧ x3.drop 2 = acc ++ (l.drop i).flatMap encE) else x4 = 2) → garderobelaw07_PoolOne.l0 k l x3 x4 b acc (i : Int) = some true := by
  intro d
  induction d with
  | zero =>
    intro k i b acc h ha hf hc
    obtain ⟨k, rfl⟩ : ∃ m, k = m + 1 := ⟨k - 1, by omega⟩
    rw [List.drop_eq_nil_of_le (by omega), List.all_nil, Bool.and_true, List.flatMap_nil, List.append_nil] at hc
    rw [garderobelaw07_PoolOne.l0, if_neg (by omega)]
    cases b with
    | false =>
      rw [if_neg (by decide)] at hc
      rw [if_neg (by decide), if_pos hc, works_PoolOne, Option.bind_some]
    | true =>
      rw [if_pos rfl] at hc
      rw [if_pos rfl]
      by_cases hb : l.length > 255
      · rw [if_pos hb] at hc
        rw [if_pos (by omega), if_pos hc, works_PoolOne, Option.bind_some]
      · rw [if_neg hb] at hc
        obtain ⟨e1, e2, e3⟩ := hc
        have hs : garderoberef00_Same.f k acc acc = some true := Same_refl k acc (by rw [← e3, List.length_drop]; omega) (by rw [← e3, List.length_drop]; omega)
        rw [if_neg (by omega), if_pos e1, if_pos (by omega), if_pos (by omega), e3, hs, Option.bind_some, if_pos rfl, works_PoolOne, Option.bind_some]
  | succ d ih =>
    intro k i b acc h ha hf hc
    obtain ⟨k, rfl⟩ : ∃ m, k = m + 1 := ⟨k - 1, by omega⟩
    have h1 : i < l.length := by omega
    have hw : wrap64 ((i : Int) + 1) = ((i + 1 : Nat) : Int) := by rw [wrap_id (by omega) (by omega)]; omega
    have he := hk l[i] (List.getElem_mem h1)
    rw [List.drop_eq_getElem_cons h1, List.all_cons, List.flatMap_cons] at hc
    rw [garderobelaw07_PoolOne.l0, if_pos (by omega), if_pos (by omega), hw, if_pos (by omega), if_pos (by omega), Int.toNat_natCast, Int.toNat_natCast, cutOne l i h1,
      pool_Put_eq k [l[i]] (by intro e hm; rw [List.mem_singleton] at hm; rw [hm]; exact he) (by simp), Option.bind_some, putOne]
    by_cases hm : mayE l[i] = true
    · rw [hm, Bool.true_and] at hc
      have hl4 := enc_length l[i]
      have hll : (0 :: 1 :: encE l[i]).length = 6 := by simp [hl4]
      rw [if_pos hm, if_pos (show (0 : Int) = 0 from rfl), if_pos (show (((0 :: 1 :: encE l[i] : List Int).length : Nat) : Int) = 6 from by rw [hll]; rfl), if_pos (show (2 : Int) ≤ (((0 :: 1 :: encE l[i] : List Int).length : Nat) : Int) from by rw [hll]; decide), Option.bind_some,
        show (0 :: 1 :: encE l[i] : List Int).drop 2 = encE l[i] from rfl, if_pos (by rw [hl4]; omega)]
      refine ih k (i + 1) b (acc ++ encE l[i]) (by omega) (by rw [List.length_append, hl4]; omega) (by omega) ?_
      rw [List.append_assoc]
      exact hc
    · rw [Bool.eq_false_iff.mpr hm, Bool.false_and, Bool.and_false, if_neg (by decide)] at hc
      rw [if_neg hm, if_neg (show ¬ (2 : Int) = 0 from by decide)]
      refine ih k (i + 1) false acc (by omega) (by omega) (by omega) ?_
      rw [Bool.false_and, if_neg (by decide)]
      exact hc
theorem put_length (l : List S43) : (putP l).1.length ≤ 1022 := by
  unfold putP
  split
  · split
    · simp
    · rw [List.length_append, EPoolOne.encs_length]
      simp; omega
  · simp
theorem PoolOne : garderobelaw07_PoolOne.PureQ := by
  intro l ⟨_, hl, hw⟩
  have h : ∀ e ∈ l, okE e := by
    intro e he
    obtain ⟨h0, h1, h2, _, h4, h5, h6⟩ := hw e he
    exact ⟨wf_u8 h0, by have := wf_u16 h1; omega, wf_u8 h2, by have := wf_u16 h4; omega, wf_u8 h5, wf_u8 h6⟩
  obtain ⟨K, hK⟩ : ∃ K : Nat, K = l.length + 1200 := ⟨_, rfl⟩
  refine ⟨K, ?_⟩
  have hl' : l.length ≤ 14073748835532 := by omega
  have := loopOne l h hl' (putP l).1 (putP l).2 (put_length l) l.length K 0 true [] (by omega) (by simp) (by omega) (by
    rw [List.drop_zero, Bool.true_and, List.nil_append]
    unfold putP
    by_cases hm : l.all mayE = true
    · rw [if_pos hm, if_pos hm]
      by_cases hb : l.length > 255
      · rw [if_pos hb, if_pos hb]
      · rw [if_neg hb, if_neg hb]
        exact ⟨rfl, by simp, rfl⟩
    · rw [if_neg hm, if_neg hm])
  rw [garderobelaw07_PoolOne.f, pool_Put_eq K l h hl', Option.bind_some]
  exact this

end Go.Proofs.Ytechlmlokgjlnaa.Pure
