/- Plain words: references and entries of a pool. No program in sight. -/
import Derived.Test.YtechlmlokgjlnaaSpec
import Derived.Laws.BitsAllLaws
namespace Go.Proofs.YtechlmlokgjlnaaW.Spec
open Go Go.RowKit Go.Proofs.YtechlmlokgjlnaaW.PrintWords Go.Proofs.YtechlmlokgjlnaaW.PrintMore

theorem and_hi {a : Int} (h0 : 0 ≤ a) (h1 : a < 65536) : Go.bits .and .u16 a 32768 = if a < 32768 then 0 else 32768 := by
  rw [u16_and a 32768 h0 h1 (by decide) (by decide)]
  obtain ⟨n, rfl⟩ := Int.eq_ofNat_of_zero_le h0
  have hn : n < 65536 := by omega
  rw [show (32768 : Int).toNat = 2 ^ 15 from rfl, Int.toNat_natCast]
  have hb : n.testBit 15 = decide (¬ n < 32768) := by
    rw [Nat.testBit_eq_decide_div_mod_eq]
    congr 1
    rw [eq_iff_iff]
    omega
  by_cases h : n < 32768
  · rw [if_pos (by omega)]
    have : n &&& 2 ^ 15 = 0 := by
      apply Nat.eq_of_testBit_eq
      intro i
      rw [Nat.testBit_and, Nat.testBit_two_pow, Nat.zero_testBit]
      by_cases hi : 15 = i
      · subst hi; rw [hb]; simp [h]
      · simp [hi]
    rw [this]; rfl
  · rw [if_neg (by omega)]
    have : n &&& 2 ^ 15 = 2 ^ 15 := by
      apply Nat.eq_of_testBit_eq
      intro i
      rw [Nat.testBit_and, Nat.testBit_two_pow]
      by_cases hi : 15 = i
      · subst hi; rw [hb]; simp [h]
      · simp [hi]
    rw [this]; rfl
theorem andNot_hi {a : Int} (h0 : 0 ≤ a) (h1 : a < 65536) : Go.bits .andNot .u16 a 32768 = a % 32768 := by
  rw [u16_andNot a 32768 h0 h1 (by decide) (by decide)]
  obtain ⟨n, rfl⟩ := Int.eq_ofNat_of_zero_le h0
  rw [show 65535 - (32768 : Int).toNat = 2 ^ 15 - 1 from rfl, Int.toNat_natCast, Nat.and_two_pow_sub_one_eq_mod]
  omega
theorem and_lo {a : Int} (h0 : 0 ≤ a) (h1 : a < 65536) : Go.bits .and .u16 a 255 = a % 256 := by
  have := bits_mask .u16 16 (by decide) (fun n h0 h1 => by simp [IntKind.wrap, IntKind.bits, IntKind.signed]; omega) 8 (by decide) a h0 (by omega)
  simpa using this
theorem or_hi {a b : Int} (ha : 0 ≤ a) (ha' : a < 65536) (hb : 0 ≤ b) (hb' : b < 65536) : 32768 ≤ Go.bits .or .u16 (Go.bits .or .u16 32768 a) b ∧ Go.bits .or .u16 (Go.bits .or .u16 32768 a) b < 65536 := by
  obtain ⟨m, rfl⟩ := Int.eq_ofNat_of_zero_le ha
  obtain ⟨n, rfl⟩ := Int.eq_ofNat_of_zero_le hb
  rw [u16_or 32768 (m : Int) (by decide) (by decide) ha ha']
  have h1 : (32768 : Int).toNat ||| (m : Int).toNat < 2 ^ 16 := Nat.or_lt_two_pow (by decide) (by omega)
  rw [u16_or _ _ (by omega) (by omega) hb hb']
  have h2 : (((32768 : Int).toNat ||| (m : Int).toNat : Nat) : Int).toNat ||| (n : Int).toNat < 2 ^ 16 := Nat.or_lt_two_pow (by omega) (by omega)
  have h3 : 32768 ≤ (32768 : Int).toNat ||| (m : Int).toNat := Nat.left_le_or
  have h4 : (((32768 : Int).toNat ||| (m : Int).toNat : Nat) : Int).toNat ≤ (((32768 : Int).toNat ||| (m : Int).toNat : Nat) : Int).toNat ||| (n : Int).toNat := Nat.left_le_or
  omega
theorem or_join {n t : Int} (hn : 0 ≤ n) (hn' : n ≤ 127) (ht : 0 ≤ t) (ht' : t ≤ 255) : Go.bits .or .u16 (Go.bits .or .u16 32768 (n * 256)) t = 32768 + 256 * n + t := by
  have hw : ∀ x : Int, 0 ≤ x → x < 2 ^ 16 → IntKind.u16.wrap x = x := fun x h0 h1 => by simp [IntKind.wrap, IntKind.bits, IntKind.signed]; omega
  rw [bits_join .u16 16 (by decide) hw 15 32768 (n * 256) (by decide) (by decide) (by decide) (by omega) (by omega) (by omega)]
  rw [bits_join .u16 16 (by decide) hw 8 (32768 + n * 256) t (by omega) (by omega) (by omega) ht (by omega) (by omega)]
  omega
def splitP (a : Int) : Bool × Int × Int := if a < 32768 then (false, a, 0) else (true, (a - 32768) / 256, a % 256)
def refP (i : Bool) (n t : Int) : Int × Int :=
  if i = true then (if 0 ≤ n ∧ n ≤ 127 ∧ 0 ≤ t ∧ t ≤ 255 then (32768 + 256 * n + t, 0) else (0, 2)) else (if 0 ≤ n ∧ n < 32768 ∧ t = 0 then (n, 0) else (0, 2))
theorem or_u8 {x : Int} (h0 : 0 ≤ x) (h1 : x ≤ 255) : Go.bits .or .u8 128 x = if x < 128 then 128 + x else x := by
  have h : ∀ i : Fin 256, Go.bits .or .u8 128 (i.val : Int) = if (i.val : Int) < 128 then 128 + (i.val : Int) else (i.val : Int) := by decide +kernel
  obtain ⟨n, rfl⟩ := Int.eq_ofNat_of_zero_le h0
  exact h ⟨n, by omega⟩
theorem andNot_u8 {x : Int} (h0 : 0 ≤ x) (h1 : x ≤ 255) : Go.bits .andNot .u8 x 128 = x % 128 := by
  have h : ∀ i : Fin 256, Go.bits .andNot .u8 (i.val : Int) 128 = (i.val : Int) % 128 := by decide +kernel
  obtain ⟨n, rfl⟩ := Int.eq_ofNat_of_zero_le h0
  exact h ⟨n, by omega⟩
theorem and_u8 {x : Int} (h0 : 0 ≤ x) (h1 : x ≤ 255) : Go.bits .and .u8 x 128 = if x < 128 then 0 else 128 := by
  have h : ∀ i : Fin 256, Go.bits .and .u8 (i.val : Int) 128 = if (i.val : Int) < 128 then 0 else 128 := by decide +kernel
  obtain ⟨n, rfl⟩ := Int.eq_ofNat_of_zero_le h0
  exact h ⟨n, by omega⟩
theorem or_w {b c : Int} (hb : 0 ≤ b) (hb' : b ≤ 255) (hc : 0 ≤ c) (hc' : c ≤ 255) : Go.bits .or .u16 (IntKind.u16.wrap (IntKind.u16.wrap b * 256)) (IntKind.u16.wrap c) = 256 * b + c := by
  have hw : ∀ x : Int, 0 ≤ x → x < 2 ^ 16 → IntKind.u16.wrap x = x := fun x h0 h1 => by simp [IntKind.wrap, IntKind.bits, IntKind.signed]; omega
  rw [hw b (by omega) (by omega), hw (b * 256) (by omega) (by omega), hw c (by omega) (by omega)]
  rw [bits_join .u16 16 (by decide) hw 8 (b * 256) c (by omega) (by omega) (by omega) hc (by omega) (by omega)]
  omega
end Go.Proofs.YtechlmlokgjlnaaW.Spec
