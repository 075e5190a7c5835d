/- What is put is got, wherever it stands: for all names, and bytes ahead and behind, where the bytes that come in are at most 1,048,576 together. -/
import Derived.Test.YtdplpkngacfacaaEAidBack
import Derived.Test.YtdplpkngacfacaaQAidBack
set_option linter.unusedSimpArgs false
set_option linter.unusedVariables false
namespace Go.Proofs.Ytdplpkngacfacaa.Pure
open Go Go.RowKit Go.Proofs.YtdplpkngacfacaaW.Mine Go.Proofs.Ytdplpkngacfacaa.PAidBack Go.Proofs.YtdplpkngacfacaaW.PrintWords Go.Proofs.YtdplpkngacfacaaW.PrintLast Go.Proofs.YtdplpkngacfacaaW.Spec Go.Proofs.Ytdplpkngacfacaa.EAidBack

theorem works_AidBack : garderobelaw03_works.f 60 = some true := by decide +kernel
theorem works_more_AidBack {k : Nat} (h : 60 ≤ k) : garderobelaw03_works.f k = some true := at_rounds garderobelaw03_works.mono h works_AidBack
theorem AidBack : garderobelaw03_AidBack.PureQ := by
  intro b ahead behind hb ha hh hsm
  have hb' := bytes_of_wf hb.2.2
  have ha' := bytes_of_wf ha.2.2
  have hh' := bytes_of_wf hh.2.2
  obtain ⟨K, hK⟩ : ∃ K : Nat, 400 ≤ K := ⟨400, Nat.le_refl _⟩
  refine ⟨K, ?_⟩
  unfold garderobelaw03_AidBack.f
  rw [aid_Put_eq _ (by omega) b (by omega), aid_May_eq]
  simp only [Option.bind_some]
  cases hm : mayA b with
  | false =>
    have e : aidPutS b = ([], 2) := by unfold aidPutS; rw [hm]; rfl
    rw [e]
    simp only
    rw [if_neg (by decide), if_neg (by decide), works_more_AidBack (by omega)]
    simp
  | true =>
    have hlen : 5 ≤ b.length ∧ b.length ≤ 16 := by simpa [mayA] using hm
    have hbl : (be b.length 1).length = 1 := by rw [be_length]; simp
    have e : aidPutS b = (be b.length 1 ++ b, 0) := by unfold aidPutS putRowS; rw [hm, if_pos rfl, if_neg (by omega), if_neg (by omega)]
    have hf : fits (b.length : Int) 1 = true := by simp [fits]; omega
    have hall : Bytes (ahead ++ (be b.length 1 ++ b) ++ behind) := bytes_append (bytes_append ha' (bytes_append (be_bytes _ _) hb')) hh'
    have p1 := part_mid ahead (be b.length 1) (b ++ behind)
    have p2 := part_mid (ahead ++ be b.length 1) b behind
    have e1 : ahead ++ (be b.length 1 ++ b) ++ behind = ahead ++ be b.length 1 ++ (b ++ behind) := by simp
    have e2 : ahead ++ (be b.length 1 ++ b) ++ behind = ahead ++ be b.length 1 ++ b ++ behind := by simp
    have hget : getS (ahead ++ (be b.length 1 ++ b) ++ behind) ahead.length 1 = ((b.length : Int), 0) := by
      unfold getS
      rw [if_pos (by decide)]
      rw [hbl] at p1
      have p1' : partS (ahead ++ (be b.length 1 ++ b) ++ behind) ahead.length 1 = (be b.length 1, 0) := by rw [e1]; exact p1
      rw [p1', val_be (by omega) (by omega) hf]
    have hp : partS (ahead ++ (be b.length 1 ++ b) ++ behind) ((ahead.length : Int) + 1) b.length = (b, 0) := by
      rw [e2]
      simp only [List.length_append, hbl] at p2
      exact p2
    have hg : getRowS (ahead ++ (be b.length 1 ++ b) ++ behind) ahead.length 1 = (b, (ahead.length : Int) + 1 + b.length, 0) := by
      unfold getRowS
      rw [if_neg (by omega), hget]
      simp only
      rw [if_pos (by simp), hp]
      simp
    have ha2 : aidGetS (ahead ++ (be b.length 1 ++ b) ++ behind) ahead.length = (b, (ahead.length : Int) + 1 + b.length, 0) := by
      unfold aidGetS
      rw [hg]
      simp only
      rw [if_pos (by simp), hm]
      simp
    rw [e]
    simp only
    rw [if_pos (by simp), Copy_eq ahead (by omega)]
    simp only [Option.bind_some]
    rw [if_pos (by simp only [List.length_append, hbl]; omega), if_pos (by simp only [List.length_append, hbl]; omega), aid_Get_eq _ (by omega) _ hall _ (by simp only [List.length_append, hbl]; omega) (by omega), ha2]
    simp only [Option.bind_some]
    have hl2 : (be b.length 1 ++ b).length = 1 + b.length := by simp only [List.length_append, hbl]
    have hw : (ahead.length : Int) + 1 + b.length = wrap64 ((ahead.length : Int) + ((be b.length 1 ++ b).length : Int)) := by
      rw [hl2, wrap_id (n := (ahead.length : Int) + ((1 + b.length : Nat) : Int)) (by omega) (by omega)]
      omega
    rw [if_pos (by simp), Same_refl _ _ (by omega) (by omega), Option.bind_some, if_pos rfl, if_pos hw, works_more_AidBack (by omega), Option.bind_some]

end Go.Proofs.Ytdplpkngacfacaa.Pure
