/- What the functions of the law PoolRefs come to, in plain words. -/
import Derived.Test.YtechlmlokgjlnaaPPoolRefsx1
import Derived.Test.YtechlmlokgjlnaaPPoolRefsx2
import Derived.Test.YtechlmlokgjlnaaSpec
import Derived.Test.YtechlmlokgjlnaaSpecPool
namespace Go.Proofs.Ytechlmlokgjlnaa.EPoolRefs
open Go Go.RowKit Go.Proofs.Ytechlmlokgjlnaa.PPoolRefs Go.Proofs.YtechlmlokgjlnaaW.PrintWords Go.Proofs.YtechlmlokgjlnaaW.PrintLast Go.Proofs.YtechlmlokgjlnaaW.PrintMore Go.Proofs.YtechlmlokgjlnaaW.Spec
set_option linter.unusedVariables false
set_option linter.unusedSimpArgs false

theorem ends_Part_eq (k : Nat) (hk : 5 ≤ k) (l : List Int) (a n : Int) (hl : l.length < 140737488355328) (ha : -9223372036854775808 ≤ a ∧ a ≤ 9223372036854775807) (hn : -9223372036854775808 ≤ n ∧ n ≤ 9223372036854775807) : ends_Part.f k l a n = some (partS l a n) := by
  obtain ⟨m, rfl⟩ : ∃ m, k = m + 1 := ⟨k - 1, by omega⟩
  unfold ends_Part.f partS
  by_cases h1 : a < 0
  · rw [if_pos h1, if_pos (by omega)]; simp [ends_Part.j0]
  · rw [if_neg h1]
    by_cases h2 : a > (l.length : Int)
    · rw [if_pos h2, if_pos (by omega)]; simp [ends_Part.j0]
    · rw [if_neg h2]
      by_cases h3 : n < 0
      · rw [if_pos (by omega)]; simp [ends_Part.j0, h3]
      · rw [if_neg (by omega)]
        simp only [ends_Part.j0]
        rw [if_neg (by simp; omega), wrap_id (n := (l.length : Int) - a) (by omega) (by omega)]
        by_cases h4 : (l.length : Int) - a < n
        · rw [if_pos h4, if_pos h4]
        · have hlen : ((l.take (a + n).toNat).drop a.toNat).length < 140737488355328 := by simp only [List.length_drop, List.length_take]; omega
          have hcut : (l.take (a + n).toNat).drop a.toNat = (l.drop a.toNat).take n.toNat := by rw [List.drop_take]; congr 1; omega
          rw [if_neg h4, if_neg h4, wrap_id (n := a + n) (by omega) (by omega), if_pos (by omega), if_pos (by omega), if_pos (by omega)]
          rw [hcut] at hlen ⊢
          unfold bytes_Clone.f
          simp only [Option.bind_some, List.length_nil, Nat.zero_add, List.nil_append]
          rw [if_pos hlen]
          rfl

theorem get_l0_0 (k : Nat) (e : Int) : ends_Get.l0 (k + 6) e 0 [] 0 0 = some (0, e) := by simp [ends_Get.l0]
theorem get_l0_1 (k : Nat) (e a : Int) (ha : 0 ≤ a ∧ a ≤ 255) : ends_Get.l0 (k + 6) e 0 [a] 1 0 = some (a, e) := by
  have h1 := or_byte (x := 0) (y := a) (by omega) (by omega) ha.1 ha.2
  simp [ends_Get.l0, wrap64, rd] at h1 ⊢
  rw [h1]
theorem get_l0_2 (k : Nat) (e a b : Int) (ha : 0 ≤ a ∧ a ≤ 255) (hb : 0 ≤ b ∧ b ≤ 255) : ends_Get.l0 (k + 6) e 0 [a, b] 2 0 = some (256 * a + b, e) := by
  have h1 := or_byte (x := 0) (y := a) (by omega) (by omega) ha.1 ha.2
  have h2 := or_byte (x := a) (y := b) (by omega) (by omega) hb.1 hb.2
  simp [ends_Get.l0, wrap64, rd] at h1 h2 ⊢
  rw [h1, h2]
theorem get_l0_4 (k : Nat) (e a b c d : Int) (ha : 0 ≤ a ∧ a ≤ 255) (hb : 0 ≤ b ∧ b ≤ 255) (hc : 0 ≤ c ∧ c ≤ 255) (hd : 0 ≤ d ∧ d ≤ 255) : ends_Get.l0 (k + 6) e 0 [a, b, c, d] 4 0 = some (256 * (256 * (256 * a + b) + c) + d, e) := by
  have h1 := or_byte (x := 0) (y := a) (by omega) (by omega) ha.1 ha.2
  have h2 := or_byte (x := a) (y := b) (by omega) (by omega) hb.1 hb.2
  have h3 := or_byte (x := 256 * a + b) (y := c) (by omega) (by omega) hc.1 hc.2
  have h4 := or_byte (x := 256 * (256 * a + b) + c) (y := d) (by omega) (by omega) hd.1 hd.2
  simp [ends_Get.l0, wrap64, rd] at h1 h2 h3 h4 ⊢
  rw [h1, h2, h3, h4]
theorem ends_Get_eq (k : Nat) (hk : 10 ≤ k) (l : List Int) (hb : Bytes l) (a s : Int) (hl : l.length < 140737488355328) (ha : -9223372036854775808 ≤ a ∧ a ≤ 9223372036854775807) (hn : -9223372036854775808 ≤ s ∧ s ≤ 9223372036854775807) : ends_Get.f k l a s = some (getS l a s) := by
  obtain ⟨m, rfl⟩ : ∃ m, k = m + 6 := ⟨k - 6, by omega⟩
  unfold ends_Get.f getS
  have hm : ends_may.f s = some (okSize s) := by
    unfold ends_may.f okSize
    by_cases h1 : s = 1
    · simp [h1]
    · by_cases h2 : s = 2
      · simp [h2]
      · by_cases h4 : s = 4 <;> simp [h1, h2, h4]
  rw [hm]
  simp only [Option.bind_some]
  by_cases ho : okSize s = true
  · rw [if_pos ho, if_pos ho, ends_Part_eq _ (by omega) l a s hl ha hn]
    simp only [Option.bind_some]
    have hp := part_bytes hb a s
    rcases part_cases l a ho with h | ⟨rfl, x, h⟩ | ⟨rfl, x, y, h⟩ | ⟨rfl, x, y, z, u, h⟩
    · rw [h]; exact get_l0_0 _ _
    · rw [h] at hp ⊢; rw [val_one]; exact get_l0_1 _ _ _ (hp x (by simp))
    · rw [h] at hp ⊢; rw [val_two]; exact get_l0_2 _ _ _ _ (hp x (by simp)) (hp y (by simp))
    · rw [h] at hp ⊢; rw [val_four]; exact get_l0_4 _ _ _ _ _ _ (hp x (by simp)) (hp y (by simp)) (hp z (by simp)) (hp u (by simp))
  · rw [if_neg ho, if_neg ho]

theorem pool_Split_eq (a : Int) (h0 : 0 ≤ a) (h1 : a < 65536) : pool_Split.f a = some (splitP a) := by
  unfold pool_Split.f splitP
  rw [and_hi h0 h1, andNot_hi h0 h1, and_lo h0 h1]
  by_cases h : a < 32768
  · rw [if_pos h, if_pos rfl, if_pos h, wrap_id (by omega) (by omega)]
  · rw [if_neg h, if_neg (by decide), if_neg h, wrap_id (by omega) (by omega), wrap_id (by omega) (by omega), show a % 32768 = a - 32768 from by omega]
theorem pool_Ref_eq (i : Bool) (n t : Int) : pool_Ref.f i n t = some (refP i n t) := by
  unfold pool_Ref.f refP
  have hw : ∀ x : Int, IntKind.u16.wrap x = x % 65536 := fun x => by simp [IntKind.wrap, IntKind.bits, IntKind.signed]
  cases i with
  | true =>
    rw [if_pos rfl, if_pos rfl]
    simp only [hw]
    have hr := or_hi (a := n % 65536 * 256 % 65536) (b := t % 65536) (by omega) (by omega) (by omega) (by omega)
    obtain ⟨X, hX⟩ : ∃ X_ : Int, X_ = Go.bits .or .u16 (Go.bits .or .u16 32768 (n % 65536 * 256 % 65536)) (t % 65536) := ⟨_, rfl⟩
    rw [← hX] at hr ⊢
    rw [pool_Split_eq X (by omega) (by omega)]
    unfold splitP
    rw [if_neg (by omega)]
    simp only [Option.bind_some]
    rw [if_neg (by decide)]
    by_cases h : 0 ≤ n ∧ n ≤ 127 ∧ 0 ≤ t ∧ t ≤ 255
    · rw [if_pos h]
      have hv := or_join (n := n) (t := t) (by omega) (by omega) (by omega) (by omega)
      rw [show n * 256 = n % 65536 * 256 % 65536 from by omega, show Go.bits .or .u16 (Go.bits .or .u16 32768 (n % 65536 * 256 % 65536)) t = X from by rw [hX]; congr 1; omega] at hv
      rw [if_pos (by omega), if_pos (by omega), hv]
    · rw [if_neg h]
      by_cases h1 : (X - 32768) / 256 = n
      · rw [if_pos h1, if_neg (by omega)]
      · rw [if_neg h1]
  | false =>
    rw [if_neg (by decide), if_neg (by decide), hw, pool_Split_eq _ (by omega) (by omega)]
    unfold splitP
    by_cases h : n % 65536 < 32768
    · rw [if_pos h]
      simp only [Option.bind_some]
      rw [if_neg (by decide)]
      by_cases h2 : 0 ≤ n ∧ n < 32768 ∧ t = 0
      · rw [if_pos h2, if_pos (by omega), if_pos (by omega), show n % 65536 = n from by omega]
      · rw [if_neg h2]
        by_cases h1 : n % 65536 = n
        · rw [if_pos h1, if_neg (by omega)]
        · rw [if_neg h1]
    · rw [if_neg h]
      simp only [Option.bind_some]
      rw [if_pos (by decide), if_neg (by omega)]

theorem ref7_Split_eq (a : Int) (h0 : 0 ≤ a) (h1 : a < 65536) : garderoberef07_Split.f a = some (splitP a) := by
  unfold garderoberef07_Split.f splitP
  by_cases h : a < 32768
  · rw [if_pos h, if_pos h, wrap_id (by omega) (by omega)]
  · have hw : IntKind.u16.wrap (a - 32768) = a - 32768 := by simp [IntKind.wrap, IntKind.bits, IntKind.signed]; omega
    rw [if_neg h, if_neg h, hw, wrap_id (n := a - 32768) (by omega) (by omega), Int.tdiv_eq_ediv_of_nonneg (by omega), Int.tmod_eq_emod_of_nonneg (by omega), wrap_id (by omega) (by omega), show (a - 32768) % 256 = a % 256 from by omega]

theorem ref7_Ref_eq (k : Nat) (hk : 1 ≤ k) (i : Bool) (n t : Int) : garderoberef07_Ref.f k i n t = some (refP i n t) := by
  unfold garderoberef07_Ref.f refP
  obtain ⟨k, rfl⟩ : ∃ m, k = m + 1 := ⟨k - 1, by omega⟩
  have hw : ∀ x : Int, IntKind.u16.wrap x = x % 65536 := fun x => by simp [IntKind.wrap, IntKind.bits, IntKind.signed]
  cases i with
  | true =>
    rw [if_pos rfl, if_pos rfl]
    simp only [garderoberef07_Ref.j0, hw]
    by_cases h1 : n < 0
    · rw [if_pos h1, if_pos trivial, if_neg (by omega)]
    · rw [if_neg h1]
      by_cases h2 : n > 127
      · rw [if_pos h2, if_pos trivial, if_neg (by omega)]
      · rw [if_neg h2]
        by_cases h3 : t < 0
        · rw [if_pos h3, if_pos trivial, if_neg (by omega)]
        · rw [if_neg h3]
          by_cases h4 : t > 255
          · rw [if_pos (decide_eq_true h4), if_neg (by omega)]
          · rw [if_neg (by simpa using h4), if_pos (by omega), wrap_id (n := 256 * n) (by omega) (by omega), wrap_id (n := 32768 + 256 * n) (by omega) (by omega), wrap_id (by omega) (by omega), show (32768 + 256 * n + t) % 65536 = 32768 + 256 * n + t from by omega]
  | false =>
    simp only [Bool.false_eq_true, if_false, hw]
    by_cases h1 : n < 0
    · rw [if_pos h1, if_neg (by omega)]
    · rw [if_neg h1]
      by_cases h2 : n ≥ 32768
      · rw [if_pos h2, if_neg (by omega)]
      · rw [if_neg h2]
        by_cases h3 : t = 0
        · rw [if_pos h3, if_pos (by omega), show n % 65536 = n from by omega]
        · rw [if_neg h3, if_neg (by omega)]

end Go.Proofs.Ytechlmlokgjlnaa.EPoolRefs
