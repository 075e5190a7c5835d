/- What is put is read, what is read is put as the same bytes, what is answered is split: for all messages, bytes and answers. -/
import Derived.Test.YtfloeenjkjimmaaEApduBack
import Derived.Test.YtfloeenjkjimmaaQApduBack
set_option linter.unusedSimpArgs false
set_option linter.unusedVariables false
namespace Go.Proofs.Ytfloeenjkjimmaa.Pure
open Go Go.RowKit Go.Proofs.YtfloeenjkjimmaaW.Mine Go.Proofs.Ytfloeenjkjimmaa.PApduBack Go.Proofs.YtfloeenjkjimmaaW.PrintWords Go.Proofs.YtfloeenjkjimmaaW.PrintLast Go.Proofs.YtfloeenjkjimmaaW.Spec Go.Proofs.Ytfloeenjkjimmaa.EApduBack

theorem works_ApduBack : garderobelaw28_works.f 60 = some true := by decide +kernel
theorem works_more_ApduBack {k : Nat} (h : 60 ≤ k) : garderobelaw28_works.f k = some true := at_rounds garderobelaw28_works.mono h works_ApduBack
theorem answer_ApduBack (data : List Int) (s : Int) (hb : Bytes data) (hs : 0 ≤ s ∧ s ≤ 65535) (k : Nat) (hk : data.length + 400 ≤ k) : garderobelaw28_ApduBack.j1 (k + 1) data s = some true := by
  simp only [garderobelaw28_ApduBack.j1]
  rw [apdu_Answer_eq k (by omega) data s hs]
  simp only [Option.bind_some]
  by_cases h : data.length > 256
  · have e : answerS data s = ([], 2) := by unfold answerS; rw [if_pos h]
    rw [e]
    simp only
    rw [if_neg (by decide), if_pos (by omega), works_more_ApduBack (by omega), Option.bind_some]
  · have e : answerS data s = (data ++ [s / 256 % 256, s % 256], 0) := by unfold answerS; rw [if_neg h]
    have hby : Bytes (data ++ [s / 256 % 256, s % 256]) := bytes_append hb (by intro x hx; simp at hx; omega)
    rw [e]
    simp only
    rw [if_pos (by simp), apdu_Split_eq k (by omega) _ hby (by simp; omega), split_answer (by omega) hs]
    simp only [Option.bind_some]
    rw [if_pos (by simp), Same_refl _ _ (by omega) (by omega), Option.bind_some, if_pos rfl, if_pos (by simp), works_more_ApduBack (by omega), Option.bind_some]
theorem read_ApduBack (b data : List Int) (s : Int) (hb : Bytes b) (hl : b.length < 140737488355328) (hd : Bytes data) (hs : 0 ≤ s ∧ s ≤ 65535) (k : Nat) (hk : b.length + data.length + 800 ≤ k) : garderobelaw28_ApduBack.j0 (k + 2) b data s = some true := by
  have hj := answer_ApduBack data s hd hs k (by omega)
  simp only [garderobelaw28_ApduBack.j0]
  rw [apdu_Read_eq (k + 1) (by omega) b hb hl]
  simp only [Option.bind_some]
  generalize hm : readS b = m
  obtain ⟨c, cla, ins, p1, p2, dat, le, e⟩ := m
  simp only
  by_cases he : e = 0
  · subst he
    obtain ⟨h1, h2⟩ := put_read hb hm
    have hlen := mayM_len h1
    have hput : putM c cla ins p1 p2 dat le = (b, 0) := by unfold putM; rw [if_pos h1, h2]
    rw [if_pos rfl, apdu_Put_eq (k + 1) (by omega) c cla ins p1 p2 dat le (by omega), hput]
    simp only [Option.bind_some]
    rw [if_pos (by simp), Same_refl _ _ (by omega) (by omega), Option.bind_some, if_pos rfl]
    exact hj
  · rw [if_neg he]
    exact hj
theorem ApduBack : garderobelaw28_ApduBack.PureQ := by
  intro c cla ins p1 p2 dat le b data s hc hcla hins hp1 hp2 hdat hle hb hdata hs
  have hcla := wf_u8 hcla
  have hins := wf_u8 hins
  have hp1 := wf_u8 hp1
  have hp2 := wf_u8 hp2
  have hs := wf_u16 hs
  have hdat' := bytes_of_wf hdat.2.2
  have hb' := bytes_of_wf hb.2.2
  have hdata' := bytes_of_wf hdata.2.2
  obtain ⟨K, hK⟩ : ∃ K : Nat, dat.length + b.length + data.length + 1000 ≤ K := ⟨_, Nat.le_refl _⟩
  refine ⟨K + 2, ?_⟩
  have hj := read_ApduBack b data s hb' (by omega) hdata' hs K (by omega)
  unfold garderobelaw28_ApduBack.f
  rw [apdu_Put_eq _ (by omega) c cla ins p1 p2 dat le (by omega)]
  simp only [Option.bind_some]
  by_cases hm : mayM c dat le = true
  · have e : putM c cla ins p1 p2 dat le = (msgBytes cla ins p1 p2 dat le, 0) := by unfold putM; rw [if_pos hm]
    have hlen := mayM_len hm
    have hby : Bytes (msgBytes cla ins p1 p2 dat le) := by
      unfold msgBytes
      refine bytes_append (bytes_append ?_ ?_) ?_
      · intro x hx; simp at hx; omega
      · split
        · exact bytes_nil
        · intro x hx
          rcases List.mem_cons.1 hx with rfl | hx
          · omega
          · exact hdat' x hx
      · split
        · intro x hx; simp at hx; omega
        · exact bytes_nil
    have hbl : (msgBytes cla ins p1 p2 dat le).length ≤ 300 := by
      unfold msgBytes
      simp only [List.length_append, List.length_cons, List.length_nil]
      split <;> split <;> simp <;> omega
    rw [e]
    simp only
    rw [if_pos (by simp), apdu_Read_eq _ (by omega) _ hby (by omega), read_put hm]
    simp only [Option.bind_some]
    have hsame : garderobelaw28_same.f (K + 2) c cla ins p1 p2 dat le c cla ins p1 p2 dat le = some true := by
      unfold garderobelaw28_same.f
      rw [if_pos rfl, if_pos rfl, if_pos rfl, if_pos rfl, if_pos rfl, if_pos rfl, Same_refl _ _ (by omega) (by omega), Option.bind_some]
    rw [if_pos (by simp), hsame, Option.bind_some, if_pos rfl]
    exact hj
  · have e : putM c cla ins p1 p2 dat le = ([], 2) := by unfold putM; rw [if_neg hm]
    rw [e]
    simp only
    rw [if_neg (by decide)]
    exact hj

end Go.Proofs.Ytfloeenjkjimmaa.Pure
