/- Plain words: types and signatures as bytes. No program in sight. -/
import Derived.Test.YtjbpdmkalegacaaVSpec
namespace Go.Proofs.YtjbpdmkalegacaaW.Spec
open Go Go.RowKit Go.Proofs.YtjbpdmkalegacaaW.PrintWords Go.Proofs.YtjbpdmkalegacaaW.PrintMore
abbrev Ty := Int × Int
def ofS (a : Int) : Int := if a = 1 ∨ a = 2 ∨ a = 3 ∨ a = 5 ∨ a = 6 ∨ a = 7 then 1 else if a = 4 ∨ a = 8 then 2 else 0
def mayT (t : Ty) : Bool := (ofS t.1 == 1 && t.2 == 0) || ofS t.1 == 2
def bytesT (t : Ty) : List Int := if ofS t.1 = 2 then [t.1, t.2 / 256 % 256, t.2 % 256] else [t.1]
def putT (t : Ty) : List Int × Int := if mayT t = true then (bytesT t, 0) else ([], 2)
def getT (l : List Int) (a : Int) : Ty × Int × Int :=
  if (getS l a 1).2 = 0 then
    (if ofS (getS l a 1).1 = 0 then ((0, 0), 0, 5) else if ofS (getS l a 1).1 = 1 then (((getS l a 1).1, 0), a + 1, 0) else
      if (getS l (a + 1) 2).2 = 0 then (((getS l a 1).1, (getS l (a + 1) 2).1), a + 3, 0) else ((0, 0), 0, (getS l (a + 1) 2).2))
  else ((0, 0), 0, (getS l a 1).2)
def maySig (ps : List Ty) (r : Ty) : Bool := (r == (0, 0) || mayT r) && decide (ps.length ≤ 15) && ps.all mayT
def retBytes (r : Ty) : List Int := if r = (0, 0) then [0] else bytesT r
def sigBytes (ps : List Ty) (r : Ty) : List Int := retBytes r ++ [(ps.length : Int)] ++ ps.flatMap bytesT
def putSigS (ps : List Ty) (r : Ty) : List Int × Int := if maySig ps r = true then (sigBytes ps r, 0) else ([], 2)
def getTs (l : List Int) : Nat → Int → List Ty × Int × Int
  | 0, a => ([], a, 0)
  | n + 1, a => if (getT l a).2.2 = 0 then (if (getTs l n (getT l a).2.1).2.2 = 0 then ((getT l a).1 :: (getTs l n (getT l a).2.1).1, (getTs l n (getT l a).2.1).2.1, 0) else ([], 0, (getTs l n (getT l a).2.1).2.2)) else ([], 0, (getT l a).2.2)
def getRet (l : List Int) (a : Int) : Ty × Int × Int := if (getS l a 1).1 = 0 then ((0, 0), a + 1, 0) else getT l a
def getSigS (l : List Int) (a : Int) : List Ty × Ty × Int × Int :=
  if (getS l a 1).2 = 0 then
    (if (getRet l a).2.2 = 0 then
      (if (getS l (getRet l a).2.1 1).2 = 0 then
        (if (getS l (getRet l a).2.1 1).1 > 15 then ([], (0, 0), 0, 5) else
          if (getTs l (getS l (getRet l a).2.1 1).1.toNat ((getRet l a).2.1 + 1)).2.2 = 0 then ((getTs l (getS l (getRet l a).2.1 1).1.toNat ((getRet l a).2.1 + 1)).1, (getRet l a).1, (getTs l (getS l (getRet l a).2.1 1).1.toNat ((getRet l a).2.1 + 1)).2.1, 0)
          else ([], (0, 0), 0, (getTs l (getS l (getRet l a).2.1 1).1.toNat ((getRet l a).2.1 + 1)).2.2))
      else ([], (0, 0), 0, (getS l (getRet l a).2.1 1).2))
    else ([], (0, 0), 0, (getRet l a).2.2))
  else ([], (0, 0), 0, (getS l a 1).2)
theorem ofS_range (a : Int) : ofS a = 0 ∨ (ofS a = 1 ∧ 1 ≤ a ∧ a ≤ 7) ∨ (ofS a = 2 ∧ 4 ≤ a ∧ a ≤ 8) := by
  unfold ofS; split
  · omega
  · split <;> omega
theorem get_place {l : List Int} {a s : Int} (hs : okSize s = true) (h : (getS l a s).2 = 0) : 0 ≤ a ∧ a + s ≤ l.length := by
  unfold getS at h
  rw [if_pos hs] at h
  have := part_length h
  omega
theorem get_err {l : List Int} {a s : Int} (h : (getS l a s).2 ≠ 0) : (getS l a s).1 = 0 := by
  unfold getS at h ⊢
  split
  · rename_i hs
    rw [if_pos hs] at h
    rw [part_err h]; rfl
  · rfl
theorem getT_place {l : List Int} {a : Int} (h : (getT l a).2.2 = 0) : 0 ≤ a ∧ a < (getT l a).2.1 ∧ (getT l a).2.1 ≤ l.length ∧ 1 ≤ (getT l a).1.1 ∧ (getT l a).1.1 ≤ 8 := by
  unfold getT at h ⊢
  by_cases h1 : (getS l a 1).2 = 0
  · have p1 := get_place (s := 1) (by decide) h1
    rw [if_pos h1] at h ⊢
    by_cases h2 : ofS (getS l a 1).1 = 0
    · rw [if_pos h2] at h; simp at h
    · rw [if_neg h2] at h ⊢
      have hr := ofS_range (getS l a 1).1
      by_cases h3 : ofS (getS l a 1).1 = 1
      · rw [if_pos h3] at h ⊢
        simp only
        omega
      · rw [if_neg h3] at h ⊢
        by_cases h4 : (getS l (a + 1) 2).2 = 0
        · have p2 := get_place (s := 2) (by decide) h4
          rw [if_pos h4] at h ⊢
          simp only
          omega
        · rw [if_neg h4] at h; simp at h; omega
  · rw [if_neg h1] at h; simp at h; omega
theorem getTs_place {l : List Int} : ∀ {n : Nat} {a : Int}, 0 ≤ a → a ≤ l.length → (getTs l n a).2.2 = 0 → (getTs l n a).1.length = n ∧ a ≤ (getTs l n a).2.1 ∧ (getTs l n a).2.1 ≤ l.length
  | 0, a, h0, h1, _ => by simp [getTs]; omega
  | n + 1, a, h0, h1, h => by
    simp only [getTs] at h ⊢
    by_cases e1 : (getT l a).2.2 = 0
    · rw [if_pos e1] at h ⊢
      have p := getT_place e1
      by_cases e2 : (getTs l n (getT l a).2.1).2.2 = 0
      · have q := getTs_place (n := n) (by omega) p.2.2.1 e2
        rw [if_pos e2]
        simp only [List.length_cons]
        omega
      · rw [if_neg e2] at h; exact absurd h e2
    · rw [if_neg e1] at h; exact absurd h e1
theorem getSig_len (l : List Int) (a : Int) : (getSigS l a).1.length ≤ 15 := by
  unfold getSigS
  split
  · split
    · rename_i h0 h1
      split
      · split
        · simp
        · split
          · rename_i h2 h3 h4
            have p := get_place (s := 1) (by decide) h2
            have q := (getTs_place (by omega) (by omega) h4).1
            simp only [q]; omega
          · simp
      · simp
    · simp
  · simp
theorem getSig_place {l : List Int} {a : Int} (h : (getSigS l a).2.2.2 = 0) : 0 ≤ a ∧ a < (getSigS l a).2.2.1 ∧ (getSigS l a).2.2.1 ≤ l.length := by
  unfold getSigS at h ⊢
  by_cases h0 : (getS l a 1).2 = 0
  · rw [if_pos h0] at h ⊢
    by_cases h1 : (getRet l a).2.2 = 0
    · rw [if_pos h1] at h ⊢
      by_cases h2 : (getS l (getRet l a).2.1 1).2 = 0
      · rw [if_pos h2] at h ⊢
        by_cases h3 : (getS l (getRet l a).2.1 1).1 > 15
        · rw [if_pos h3] at h; simp at h
        · rw [if_neg h3] at h ⊢
          by_cases h4 : (getTs l (getS l (getRet l a).2.1 1).1.toNat ((getRet l a).2.1 + 1)).2.2 = 0
          · rw [if_pos h4]
            have p0 := get_place (s := 1) (by decide) h0
            have p := get_place (s := 1) (by decide) h2
            have q := getTs_place (by omega) (by omega) h4
            have r : a < (getRet l a).2.1 := by
              unfold getRet at h1 ⊢
              split
              · simp only; omega
              · rename_i hn
                rw [if_neg hn] at h1
                exact (getT_place h1).2.1
            simp only
            omega
          · rw [if_neg h4] at h; exact absurd h h4
      · rw [if_neg h2] at h; exact absurd h h2
    · rw [if_neg h1] at h; exact absurd h h1
  · rw [if_neg h0] at h; exact absurd h h0
end Go.Proofs.YtjbpdmkalegacaaW.Spec
