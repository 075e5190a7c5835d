/- Plain words: the order of bytes. No program in sight. -/
import Derived.Test.YtdplpkngacfacaaSpec
import Derived.Lib.Bytealg
import Derived.Lib.Bytes
namespace Go.Proofs.YtdplpkngacfacaaW.Spec
open Go Go.RowKit Go.Lib Go.Proofs.YtdplpkngacfacaaW.PrintWords Go.Proofs.YtdplpkngacfacaaW.PrintMore

theorem cb_cases : ∀ a b : List UInt8, compareBytes a b = -1 ∨ compareBytes a b = 0 ∨ compareBytes a b = 1
  | [], [] => by simp [compareBytes]
  | [], _ :: _ => by simp [compareBytes]
  | _ :: _, [] => by simp [compareBytes]
  | a :: as, b :: bs => by
    simp only [compareBytes]
    split
    · simp
    · split
      · simp
      · exact cb_cases as bs
theorem cb_anti : ∀ a b : List UInt8, compareBytes a b = - compareBytes b a
  | [], [] => by simp [compareBytes]
  | [], _ :: _ => by simp [compareBytes]
  | _ :: _, [] => by simp [compareBytes]
  | a :: as, b :: bs => by
    simp only [compareBytes]
    by_cases h : a < b
    · have h2 : ¬ b < a := by simp only [UInt8.lt_iff_toNat_lt] at *; omega
      rw [if_pos h, if_neg h2, if_pos h]
    · by_cases h2 : b < a
      · rw [if_neg h, if_pos h2, if_pos h2]; rfl
      · rw [if_neg h, if_neg h2, if_neg h2, if_neg h]
        exact cb_anti as bs
theorem cb_eq : ∀ a b : List UInt8, compareBytes a b = 0 ↔ a = b
  | [], [] => by simp [compareBytes]
  | [], _ :: _ => by simp [compareBytes]
  | _ :: _, [] => by simp [compareBytes]
  | a :: as, b :: bs => by
    simp only [compareBytes, List.cons.injEq]
    by_cases h : a < b
    · have h2 : ¬ a = b := by rintro rfl; simp only [UInt8.lt_iff_toNat_lt] at h; omega
      rw [if_pos h]; simp [h2]
    · by_cases h2 : b < a
      · have h3 : ¬ a = b := by rintro rfl; simp only [UInt8.lt_iff_toNat_lt] at h2; omega
        rw [if_neg h, if_pos h2]; simp [h3]
      · have h3 : a = b := by apply UInt8.toNat_inj.1; simp only [UInt8.lt_iff_toNat_lt] at *; omega
        rw [if_neg h, if_neg h2, cb_eq as bs]; simp [h3]
theorem cb_trans : ∀ a b c : List UInt8, compareBytes a b < 0 → compareBytes b c < 0 → compareBytes a c < 0
  | [], [], _, h, _ => by simp [compareBytes] at h
  | [], _ :: _, [], _, h => by simp [compareBytes] at h
  | [], _ :: _, _ :: _, _, _ => by simp [compareBytes]
  | _ :: _, [], _, h, _ => by simp [compareBytes] at h
  | _ :: _, _ :: _, [], _, h => by simp [compareBytes] at h
  | a :: as, b :: bs, c :: cs, h, h' => by
    simp only [compareBytes] at h h' ⊢
    by_cases h1 : a < b
    · by_cases h2 : b < c
      · have : a < c := by simp only [UInt8.lt_iff_toNat_lt] at *; omega
        rw [if_pos this]; decide
      · by_cases h3 : c < b
        · rw [if_neg h2, if_pos h3] at h'; simp at h'
        · have : a < c := by simp only [UInt8.lt_iff_toNat_lt] at *; omega
          rw [if_pos this]; decide
    · by_cases h2 : b < a
      · rw [if_neg h1, if_pos h2] at h; simp at h
      · rw [if_neg h1, if_neg h2] at h
        by_cases h3 : b < c
        · have : a < c := by simp only [UInt8.lt_iff_toNat_lt] at *; omega
          rw [if_pos this]; decide
        · by_cases h4 : c < b
          · rw [if_neg h3, if_pos h4] at h'; simp at h'
          · rw [if_neg h3, if_neg h4] at h'
            have h5 : ¬ a < c := by simp only [UInt8.lt_iff_toNat_lt] at *; omega
            have h6 : ¬ c < a := by simp only [UInt8.lt_iff_toNat_lt] at *; omega
            rw [if_neg h5, if_neg h6]
            exact cb_trans as bs cs h h'
/-- bytes as whole numbers, and as bytes. -/
theorem bytesOf_inj : ∀ {a b : List Int}, Bytes a → Bytes b → Lib.bytesOf a = Lib.bytesOf b → a = b
  | [], [], _, _, _ => rfl
  | [], _ :: _, _, _, h => by simp [Lib.bytesOf] at h
  | _ :: _, [], _, _, h => by simp [Lib.bytesOf] at h
  | x :: a, y :: b, ha, hb, h => by
    simp only [Lib.bytesOf, List.map_cons, List.cons.injEq] at h
    have hx := ha x List.mem_cons_self
    have hy := hb y List.mem_cons_self
    have h1 := congrArg UInt8.toNat h.1
    simp only [UInt8.toNat_ofNat'] at h1
    have e : x = y := by omega
    rw [e, bytesOf_inj (a := a) (b := b) (fun z hz => ha z (List.mem_cons_of_mem _ hz)) (fun z hz => hb z (List.mem_cons_of_mem _ hz)) h.2]
theorem bytesOf_lt {x y : Int} (hx : 0 ≤ x ∧ x ≤ 255) (hy : 0 ≤ y ∧ y ≤ 255) : (UInt8.ofNat x.toNat < UInt8.ofNat y.toNat) ↔ x < y := by
  rw [UInt8.lt_iff_toNat_lt]
  simp only [UInt8.toNat_ofNat']
  omega
end Go.Proofs.YtdplpkngacfacaaW.Spec
