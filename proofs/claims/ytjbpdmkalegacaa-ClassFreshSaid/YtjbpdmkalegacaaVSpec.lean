/- Plain words: numbers as bytes, the highest first; parts and rows of bytes. No program in sight. -/
import Derived.Test.YtjbpdmkalegacaaVMiniW
import Derived.Test.YtjbpdmkalegacaaVMine
import Derived.Laws.BitsLemmas
namespace Go.Proofs.YtjbpdmkalegacaaW.Spec
open Go Go.RowKit Go.Proofs.YtjbpdmkalegacaaW.PrintWords Go.Proofs.YtjbpdmkalegacaaW.PrintMore
/-- n's bytes, s of them. -/
def be (n s : Int) : List Int := if s = 1 then [n % 256] else if s = 2 then [n / 256 % 256, n % 256] else [n / 16777216 % 256, n / 65536 % 256, n / 256 % 256, n % 256]
/-- the number of bytes. -/
def val (l : List Int) : Int := l.foldl (fun n c => 256 * n + c) 0
def Bytes (l : List Int) : Prop := ∀ x ∈ l, 0 ≤ x ∧ x ≤ 255
def okSize (s : Int) : Bool := s == 1 || s == 2 || s == 4
def fits (n s : Int) : Bool := (s == 1 && decide (n ≤ 255)) || (s == 2 && decide (n ≤ 65535)) || s == 4
def putS (n s : Int) : List Int × Int := if fits n s = true then (be n s, 0) else ([], 2)
def partS (l : List Int) (at_ n : Int) : List Int × Int :=
  if at_ < 0 ∨ (l.length : Int) < at_ ∨ n < 0 then ([], 2) else if (l.length : Int) - at_ < n then ([], 4) else ((l.drop at_.toNat).take n.toNat, 0)
def getS (l : List Int) (at_ s : Int) : Int × Int := if okSize s = true then (val (partS l at_ s).1, (partS l at_ s).2) else (0, 2)
def putRowS (l : List Int) (s : Int) : List Int × Int :=
  if s ≠ 1 ∧ s ≠ 2 then ([], 2) else if (s = 1 ∧ 256 ≤ l.length) ∨ 65536 ≤ l.length then ([], 3) else (be l.length s ++ l, 0)
def getRowS (l : List Int) (at_ s : Int) : List Int × Int × Int :=
  if s ≠ 1 ∧ s ≠ 2 then ([], 0, 2) else if (getS l at_ s).2 = 0 then
    (if (partS l (at_ + s) (getS l at_ s).1).2 = 0 then ((partS l (at_ + s) (getS l at_ s).1).1, at_ + s + (getS l at_ s).1, 0) else ([], 0, (partS l (at_ + s) (getS l at_ s).1).2))
  else ([], 0, (getS l at_ s).2)
theorem wrap_id {n : Int} (h : -9223372036854775808 ≤ n) (h' : n ≤ 9223372036854775807) : wrap64 n = n := by unfold wrap64; omega
theorem or_byte {x y : Int} (h0 : 0 ≤ x) (h1 : x ≤ 16777215) (hy : 0 ≤ y) (hy' : y ≤ 255) : Go.bits .or .u32 ((x * 256) % 4294967296) (y % 4294967296) = 256 * x + y := by
  have e1 : (x * 256) % 4294967296 = x * 256 := by omega
  have e2 : y % 4294967296 = y := by omega
  rw [e1, e2, bits_join .u32 32 (by decide) (fun n h0 h1 => by rw [IntKind.wrap_u32]; omega) 8 (x * 256) y (by omega) (by omega) (by omega) hy (by omega) (by omega)]
  omega
theorem bytes_drop {l : List Int} (h : Bytes l) (n : Nat) : Bytes (l.drop n) := fun x hx => h x (List.mem_of_mem_drop hx)
theorem bytes_take {l : List Int} (h : Bytes l) (n : Nat) : Bytes (l.take n) := fun x hx => h x (List.mem_of_mem_take hx)
theorem bytes_nil : Bytes [] := fun x hx => by cases hx
theorem bytes_of_wf {l : List Int} (h : ∀ x ∈ l, (Lit.int .u8 x).wf = true) : Bytes l := fun x hx => Mine.wf_u8 (h x hx)
theorem be_length (n s : Int) : (be n s).length = if s = 1 then 1 else if s = 2 then 2 else 4 := by
  unfold be; split
  · rfl
  · split <;> rfl
theorem val_one (a : Int) : val [a] = a := by simp [val]
theorem val_two (a b : Int) : val [a, b] = 256 * a + b := by simp [val]
theorem val_four (a b c d : Int) : val [a, b, c, d] = 256 * (256 * (256 * a + b) + c) + d := by simp [val]
/-- the number of so many bytes lies below .. -/
theorem val_range1 {a : Int} (h : Bytes [a]) : 0 ≤ val [a] ∧ val [a] ≤ 255 := by
  have := h a (by simp); rw [val_one]; omega
theorem val_range2 {a b : Int} (h : Bytes [a, b]) : 0 ≤ val [a, b] ∧ val [a, b] ≤ 65535 := by
  have h1 := h a (by simp); have h2 := h b (by simp); rw [val_two]; omega
theorem val_range4 {a b c d : Int} (h : Bytes [a, b, c, d]) : 0 ≤ val [a, b, c, d] ∧ val [a, b, c, d] ≤ 4294967295 := by
  have h1 := h a (by simp); have h2 := h b (by simp); have h3 := h c (by simp); have h4 := h d (by simp); rw [val_four]; omega
theorem part_length {l : List Int} {a n : Int} (h : (partS l a n).2 = 0) : 0 ≤ a ∧ 0 ≤ n ∧ a + n ≤ l.length ∧ (partS l a n).1 = (l.drop a.toNat).take n.toNat ∧ (partS l a n).1.length = n.toNat := by
  unfold partS at h ⊢
  split at h
  · simp at h
  · split at h
    · simp at h
    · rename_i h1 h2
      rw [if_neg h1, if_neg h2]
      refine ⟨by omega, by omega, by omega, rfl, ?_⟩
      simp only [List.length_take, List.length_drop]
      omega
theorem part_err {l : List Int} {a n : Int} (h : (partS l a n).2 ≠ 0) : (partS l a n).1 = [] := by
  unfold partS at h ⊢
  split
  · rfl
  · split
    · rfl
    · rename_i h1 h2; rw [if_neg h1, if_neg h2] at h; simp at h
theorem part_bytes {l : List Int} (h : Bytes l) (a n : Int) : Bytes (partS l a n).1 := by
  unfold partS
  split
  · exact bytes_nil
  · split
    · exact bytes_nil
    · exact bytes_take (bytes_drop h _) _
/-- what is read as a number is one: the four cases. -/
theorem part_cases (l : List Int) (a : Int) {s : Int} (hs : okSize s = true) :
    (partS l a s).1 = [] ∨ (s = 1 ∧ ∃ x, (partS l a s).1 = [x]) ∨ (s = 2 ∧ ∃ x y, (partS l a s).1 = [x, y]) ∨ (s = 4 ∧ ∃ x y z u, (partS l a s).1 = [x, y, z, u]) := by
  by_cases h : (partS l a s).2 = 0
  · obtain ⟨_, _, _, _, hl⟩ := part_length h
    simp [okSize] at hs
    rcases hs with (rfl | rfl) | rfl
    · exact .inr (.inl ⟨rfl, List.length_eq_one_iff.1 hl⟩)
    · refine .inr (.inr (.inl ⟨rfl, ?_⟩))
      match (partS l a 2).1, hl with
      | [x, y], _ => exact ⟨x, y, rfl⟩
    · refine .inr (.inr (.inr ⟨rfl, ?_⟩))
      match (partS l a 4).1, hl with
      | [x, y, z, u], _ => exact ⟨x, y, z, u, rfl⟩
  · exact .inl (part_err h)
theorem get_range {l : List Int} (hb : Bytes l) (a s : Int) : 0 ≤ (getS l a s).1 ∧ (getS l a s).1 ≤ 4294967295 ∧ (s = 1 → (getS l a s).1 ≤ 255) ∧ (s = 2 → (getS l a s).1 ≤ 65535) := by
  unfold getS
  split
  · rename_i hs
    have hp := part_bytes hb a s
    rcases part_cases l a hs with h | ⟨rfl, x, h⟩ | ⟨rfl, x, y, h⟩ | ⟨rfl, x, y, z, u, h⟩
    · simp [h, val]
    · rw [h] at hp; have := val_range1 hp; simp only [h]; omega
    · rw [h] at hp; have := val_range2 hp; simp only [h]; omega
    · rw [h] at hp; have := val_range4 hp; simp only [h]; omega
  · simp
end Go.Proofs.YtjbpdmkalegacaaW.Spec
