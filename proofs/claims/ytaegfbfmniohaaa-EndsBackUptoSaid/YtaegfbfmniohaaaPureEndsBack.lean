/- What is put is got, wherever it stands, whatever is ahead and behind: for all numbers, sizes and bytes, where the bytes that come in are at most 1,048,576 together (beyond 2^48 bytes no slice grows). -/
import Derived.Test.YtaegfbfmniohaaaEEndsBack
import Derived.Test.YtaegfbfmniohaaaQEndsBack
set_option linter.unusedSimpArgs false
set_option linter.unusedVariables false
namespace Go.Proofs.Ytaegfbfmniohaaa.Pure
open Go Go.RowKit Go.Proofs.YtaegfbfmniohaaaW.Mine Go.Proofs.Ytaegfbfmniohaaa.PEndsBack Go.Proofs.YtaegfbfmniohaaaW.PrintWords Go.Proofs.YtaegfbfmniohaaaW.PrintLast Go.Proofs.YtaegfbfmniohaaaW.Spec Go.Proofs.Ytaegfbfmniohaaa.EEndsBack

theorem lives_EndsBack : garderobelaw02_lives.f 60 = some true := by decide +kernel
theorem lives_more_EndsBack {k : Nat} (h : 60 ≤ k) : garderobelaw02_lives.f k = some true := at_rounds garderobelaw02_lives.mono h lives_EndsBack
theorem row_EndsBack (row ahead behind : List Int) (hr : Bytes row) (ha : Bytes ahead) (hb : Bytes behind) (hs : row.length + ahead.length + behind.length ≤ 1048576) (k : Nat) (hk : row.length + 100 ≤ k) : garderobelaw02_EndsBack.j0 (k + 1) row ahead behind = some true := by
  simp only [garderobelaw02_EndsBack.j0]
  rw [ends_PutRow_eq _ (by omega) row 2 (by omega)]
  simp only [Option.bind_some]
  by_cases h : 65536 ≤ row.length
  · have e : putRowS row 2 = ([], 3) := by unfold putRowS; rw [if_neg (by omega), if_pos (.inr h)]
    rw [e]
    simp only
    rw [if_neg (by decide), if_pos (by omega), if_pos (by simp), lives_more_EndsBack (by omega)]
    simp
  · have e : putRowS row 2 = (be row.length 2 ++ row, 0) := by unfold putRowS; rw [if_neg (by omega), if_neg (by omega)]
    have hbl : (be row.length 2).length = 2 := by rw [be_length]; simp
    have hf : fits (row.length : Int) 2 = true := by simp [fits]; omega
    have hall : Bytes (ahead ++ (be row.length 2 ++ row) ++ behind) := bytes_append (bytes_append ha (bytes_append (be_bytes _ _) hr)) hb
    have hg : getRowS (ahead ++ (be row.length 2 ++ row) ++ behind) ahead.length 2 = (row, (ahead.length : Int) + 2 + row.length, 0) := by
      have p1 := part_mid ahead (be row.length 2) (row ++ behind)
      have p2 := part_mid (ahead ++ be row.length 2) row behind
      have e1 : ahead ++ (be row.length 2 ++ row) ++ behind = ahead ++ be row.length 2 ++ (row ++ behind) := by simp
      have e2 : ahead ++ (be row.length 2 ++ row) ++ behind = ahead ++ be row.length 2 ++ row ++ behind := by simp
      have hget : getS (ahead ++ (be row.length 2 ++ row) ++ behind) ahead.length 2 = ((row.length : Int), 0) := by
        unfold getS
        rw [if_pos (by decide)]
        rw [hbl] at p1
        have p1' : partS (ahead ++ (be row.length 2 ++ row) ++ behind) ahead.length 2 = (be row.length 2, 0) := by rw [e1]; exact p1
        rw [p1', val_be (by omega) (by omega) hf]
      have hp : partS (ahead ++ (be row.length 2 ++ row) ++ behind) ((ahead.length : Int) + 2) row.length = (row, 0) := by
        rw [e2]
        simp only [List.length_append, hbl] at p2
        exact p2
      unfold getRowS
      rw [if_neg (by omega), hget]
      rw [if_pos (by simp), hp]
      simp
    rw [e]
    simp only [List.length_nil, Nat.zero_add, List.nil_append, Option.bind_some]
    rw [if_pos (by simp), if_pos (by omega), if_pos (by simp only [List.length_append, hbl]; omega), if_pos (by simp only [List.length_append, hbl]; omega)]
    rw [ends_GetRow_eq _ (by omega) _ hall _ _ (by simp only [List.length_append, hbl]; omega) (by omega), hg]
    simp only [Option.bind_some]
    rw [if_pos (by simp), Same_refl _ _ (by omega) (by omega), wrap_id (n := (ahead.length : Int) + 2) (by omega) (by omega), wrap_id (by omega) (by omega), lives_more_EndsBack (by omega)]
    simp
theorem EndsBack : garderobelaw02_EndsBack.PureQ := by
  intro n s row ahead behind hn hs hr ha hb hsm
  have hn := wf_u32 hn
  have hs := wf_i64 hs
  have hr' := bytes_of_wf hr.2.2
  have ha' := bytes_of_wf ha.2.2
  have hb' := bytes_of_wf hb.2.2
  refine ⟨row.length + 200, ?_⟩
  have hj := row_EndsBack row ahead behind hr' ha' hb' hsm (row.length + 199) (by omega)
  unfold garderobelaw02_EndsBack.f
  rw [ends_Put_eq _ (by omega) n s hn.1 hn.2]
  simp only [Option.bind_some]
  by_cases hf : fits n s = true
  · have e : putS n s = (be n s, 0) := by unfold putS; rw [if_pos hf]
    have hok : okSize s = true := by
      simp only [fits, Bool.or_eq_true, Bool.and_eq_true, beq_iff_eq] at hf
      simp only [okSize, Bool.or_eq_true, beq_iff_eq]
      omega
    have hbl : ((be n s).length : Int) = s := by
      rw [be_length]
      simp only [okSize, Bool.or_eq_true, beq_iff_eq] at hok
      split
      · omega
      · split <;> omega
    have hbl4 : (be n s).length ≤ 4 := by rw [be_length]; split <;> (try split) <;> omega
    have hg : getS (ahead ++ be n s ++ behind) ahead.length s = (n, 0) := by
      have p := part_mid ahead (be n s) behind
      rw [hbl] at p
      unfold getS
      rw [if_pos hok, p, val_be hn.1 hn.2 hf]
    rw [e]
    simp only [List.length_nil, Nat.zero_add, List.nil_append, Option.bind_some]
    rw [if_pos (by simp), if_pos (by omega), if_pos (by omega), if_pos (by simp only [List.length_append]; omega)]
    rw [ends_Get_eq _ (by omega) _ (bytes_append (bytes_append ha' (be_bytes _ _)) hb') _ _ (by simp only [List.length_append]; omega) (by omega) (by omega), hg]
    simp only [Option.bind_some]
    rw [if_pos (by simp), if_pos (by simp), if_pos (by omega)]
    exact hj
  · have e : putS n s = ([], 2) := by unfold putS; rw [if_neg hf]
    rw [e]
    simp only
    rw [if_neg (by decide)]
    exact hj

end Go.Proofs.Ytaegfbfmniohaaa.Pure
