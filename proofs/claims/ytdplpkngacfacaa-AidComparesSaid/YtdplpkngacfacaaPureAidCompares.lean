/- Which are the same, of one issuer, begin with one another, stand ahead, and which version serves, are the document's: for all bytes and versions. -/
import Derived.Test.YtdplpkngacfacaaEAidCompares
import Derived.Test.YtdplpkngacfacaaQAidCompares
import Derived.Test.YtdplpkngacfacaaSpecCmp
set_option linter.unusedSimpArgs false
set_option linter.unusedVariables false
namespace Go.Proofs.Ytdplpkngacfacaa.Pure
open Go Go.RowKit Go.Lib Go.Proofs.YtdplpkngacfacaaW.Mine Go.Proofs.Ytdplpkngacfacaa.PAidCompares Go.Proofs.YtdplpkngacfacaaW.PrintWords Go.Proofs.YtdplpkngacfacaaW.PrintLast Go.Proofs.YtdplpkngacfacaaW.Spec Go.Proofs.Ytdplpkngacfacaa.EAidCompares

theorem works_AidCompares : garderobelaw03_works.f 60 = some true := by decide +kernel
theorem works_more_AidCompares {k : Nat} (h : 60 ≤ k) : garderobelaw03_works.f k = some true := at_rounds garderobelaw03_works.mono h works_AidCompares
theorem equal_AidCompares {a b : List Int} (ha : Bytes a) (hb : Bytes b) : bytes_Equal.f a b = some (decide (a = b)) := by
  unfold bytes_Equal.f
  rw [Lib.strOfNums_toList, Lib.strOfNums_toList]
  congr 1
  by_cases h : a = b
  · simp [h]
  · have h2 : ¬ Go.Lib.bytesOf a = Go.Lib.bytesOf b := fun e => h (bytesOf_inj ha hb e)
    simp [h, h2]
theorem ahead_l0_AidCompares (a b : List Int) (ha : Bytes a) (hb : Bytes b) (hal : a.length ≤ 4611686018427387904) : ∀ (d k i : Nat), i + d = a.length → 2 * d + 1 < k → garderoberef03_Ahead.l0 k a b (i : Int) = some (decide (compareBytes (Go.Lib.bytesOf (a.drop i)) (Go.Lib.bytesOf (b.drop i)) < 0) ) ∨ (b.length < i) := by
  intro d
  induction d with
  | zero =>
    intro k i hi hk
    obtain ⟨k, rfl⟩ : ∃ m, k = m + 2 := ⟨k - 2, by omega⟩
    by_cases hb2 : b.length < i
    · exact .inr hb2
    left
    rw [garderoberef03_Ahead.l0, if_neg (by omega), garderoberef03_Ahead.j1, if_neg (by decide), List.drop_eq_nil_of_le (by omega)]
    rcases Nat.lt_or_ge i b.length with h | h
    · rw [List.drop_eq_getElem_cons h, show compareBytes (Go.Lib.bytesOf []) (Go.Lib.bytesOf (b[i] :: b.drop (i + 1))) = -1 from rfl, decide_eq_true (show (a.length : Int) < b.length by omega)]
      rfl
    · rw [List.drop_eq_nil_of_le h, show compareBytes (Go.Lib.bytesOf []) (Go.Lib.bytesOf []) = 0 from rfl, decide_eq_false (show ¬ (a.length : Int) < b.length by omega)]
      rfl
  | succ d ih =>
    intro k i hi hk
    obtain ⟨k, rfl⟩ : ∃ m, k = m + 2 := ⟨k - 2, by omega⟩
    by_cases hb2 : b.length < i
    · exact .inr hb2
    left
    have h1 : i < a.length := by omega
    rw [garderoberef03_Ahead.l0, if_pos (by omega)]
    rcases Nat.lt_or_ge i b.length with h | h
    · have hx := ha a[i] (List.getElem_mem h1)
      have hy := hb b[i] (List.getElem_mem h)
      have e1 : rd a (i : Int) = a[i] := by simp [rd, h1]
      have e2 : rd b (i : Int) = b[i] := by simp [rd, h]
      have hlt := bytesOf_lt hx hy
      have hgt := bytesOf_lt hy hx
      rw [show decide ((i : Int) < (b.length : Int)) = true from decide_eq_true (by omega), garderoberef03_Ahead.j1, if_pos rfl, if_pos (by omega), if_pos (by omega), if_pos (by omega), e1, e2]
      rw [List.drop_eq_getElem_cons h1, List.drop_eq_getElem_cons h]
      simp only [Go.Lib.bytesOf, List.map_cons, compareBytes]
      by_cases he : a[i] = b[i]
      · have n1 : ¬ UInt8.ofNat a[i].toNat < UInt8.ofNat b[i].toNat := fun hh => by have := hlt.1 hh; omega
        have n2 : ¬ UInt8.ofNat b[i].toNat < UInt8.ofNat a[i].toNat := fun hh => by have := hgt.1 hh; omega
        rw [if_neg n1, if_neg n2]
        rw [if_pos he, wrap_id (by omega) (by omega), show ((i : Int) + 1) = ((i + 1 : Nat) : Int) from by omega]
        rcases ih k (i + 1) (by omega) (by omega) with h5 | h5
        · rw [h5]; rfl
        · omega
      · rw [if_neg he]
        by_cases hl : a[i] < b[i]
        · rw [if_pos (hlt.2 hl)]
          simp [hl]
        · have n1 : ¬ UInt8.ofNat a[i].toNat < UInt8.ofNat b[i].toNat := fun hh => hl (hlt.1 hh)
          rw [if_neg n1, if_pos (hgt.2 (by omega))]
          simp [hl]
    · rw [show decide ((i : Int) < (b.length : Int)) = false from decide_eq_false (by omega), garderoberef03_Ahead.j1, if_neg (by decide)]
      rw [List.drop_eq_getElem_cons h1, List.drop_eq_nil_of_le h, show compareBytes (Go.Lib.bytesOf (a[i] :: a.drop (i + 1))) (Go.Lib.bytesOf []) = 1 from rfl, decide_eq_false (show ¬ (a.length : Int) < b.length by omega)]
      rfl
theorem AidCompares : garderobelaw03_AidCompares.PureQ := by
  intro a b h0 h1 w0 w1 ha hb _ _ _ _
  have hal := ha.2.1
  have hbl := hb.2.1
  have ha := bytes_of_wf ha.2.2
  have hb := bytes_of_wf hb.2.2
  refine ⟨2 * a.length + 200, ?_⟩
  have e1 : aid_Same.f a b = some (decide (a = b)) := by unfold aid_Same.f; rw [equal_AidCompares ha hb]; rfl
  have e2 : garderoberef03_Same.f (2 * a.length + 200) a b = some (decide (a = b)) := by unfold garderoberef03_Same.f; rw [Same_eq _ a b (by omega) (by omega)]; rfl
  have e3 : garderoberef03_Issuer.f (2 * a.length + 200) a b = aid_Issuer.f a b := by
    unfold garderoberef03_Issuer.f aid_Issuer.f
    rw [aid_May_eq, aid_May_eq, ref3_May_eq, ref3_May_eq]
    simp only [Option.bind_some]
    by_cases h2 : mayA a = true
    · by_cases h3 : mayA b = true
      · rw [if_pos h2, if_pos h2, if_pos h3, if_pos h3]
        simp only [mayA, decide_eq_true_eq, Bool.and_eq_true] at h2 h3
        rw [if_pos (by omega), if_pos (by omega), Same_eq _ _ _ (by rw [List.length_take]; omega) (by rw [List.length_take]; omega)]
        rfl
      · rw [if_pos h2, if_pos h2, if_neg h3, if_neg h3]
    · rw [if_neg h2, if_neg h2]
  have e4 : ∃ r, aid_Issuer.f a b = some r := by
    unfold aid_Issuer.f
    rw [aid_May_eq, aid_May_eq]
    simp only [Option.bind_some]
    split
    · split
      · exact ⟨_, rfl⟩
      · exact ⟨_, rfl⟩
    · exact ⟨_, rfl⟩
  obtain ⟨r4, e4⟩ := e4
  have e5 : ∃ r, aid_Begins.f a b = some r ∧ garderoberef03_Begins.f (2 * a.length + 200) a b = some r := by
    unfold aid_Begins.f garderoberef03_Begins.f bytes_HasPrefix.f
    by_cases h2 : (b.length : Int) ≥ 5
    · rw [if_pos h2, if_pos h2]
      by_cases h3 : (a.length : Int) ≥ (b.length : Int)
      · rw [if_pos h3, if_pos h3, if_pos (by omega), if_pos (by omega), if_pos (by omega), if_pos (by omega), equal_AidCompares (bytes_take ha _) hb, Same_eq _ _ _ (by rw [List.length_take]; omega) (by rw [List.length_take]; omega)]
        exact ⟨_, rfl, rfl⟩
      · rw [if_neg h3, if_neg h3]
        exact ⟨_, rfl, rfl⟩
    · rw [if_neg h2, if_neg h2]
      exact ⟨_, rfl, rfl⟩
  obtain ⟨r5, e5, e6⟩ := e5
  have e7 : aid_Ahead.f a b = some (decide (compareBytes (Go.Lib.bytesOf a) (Go.Lib.bytesOf b) < 0)) := rfl
  have e8 : garderoberef03_Ahead.f (2 * a.length + 200) a b = some (decide (compareBytes (Go.Lib.bytesOf a) (Go.Lib.bytesOf b) < 0)) := by
    unfold garderoberef03_Ahead.f
    rcases ahead_l0_AidCompares a b ha hb (by omega) a.length (2 * a.length + 200) 0 (by omega) (by omega) with h | h
    · simpa using h
    · omega
  have e9 : ∃ r, aid_Serves.f h0 h1 w0 w1 = some r ∧ garderoberef03_Serves.f h0 h1 w0 w1 = some r := by
    unfold aid_Serves.f garderoberef03_Serves.f
    by_cases h : h0 = w0
    · rw [if_pos (by simpa using h), if_pos h]; exact ⟨_, rfl, rfl⟩
    · rw [if_neg (by simpa using h), if_neg h]; exact ⟨_, rfl, rfl⟩
  obtain ⟨r9, e9, e10⟩ := e9
  unfold garderobelaw03_AidCompares.f
  rw [e1, e2, e3, e4, e5, e6, e7, e8, e9, e10, works_more_AidCompares (by omega)]
  simp

end Go.Proofs.Ytdplpkngacfacaa.Pure
