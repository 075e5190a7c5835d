/- Plain words: names and their rows. No program in sight. -/
import Derived.Test.YtdplpkngacfacaaSpec
namespace Go.Proofs.YtdplpkngacfacaaW.Spec
open Go Go.RowKit Go.Proofs.YtdplpkngacfacaaW.PrintWords Go.Proofs.YtdplpkngacfacaaW.PrintMore

def mayA (l : List Int) : Bool := decide (5 ≤ l.length ∧ l.length ≤ 16)
def aidPutS (l : List Int) : List Int × Int := if mayA l = true then putRowS l 1 else ([], 2)
def aidGetS (l : List Int) (a : Int) : List Int × Int × Int :=
  if (getRowS l a 1).2.2 = 0 then (if mayA (getRowS l a 1).1 = true then ((getRowS l a 1).1, (getRowS l a 1).2.1, 0) else ([], 0, 5)) else ([], 0, (getRowS l a 1).2.2)
theorem getRow_len {l : List Int} (hb : Bytes l) (a : Int) : (getRowS l a 1).1.length ≤ 255 := by
  have hr := get_range hb a 1
  unfold getRowS
  rw [if_neg (by omega)]
  split
  · split
    · rename_i h
      have := (part_length h).2.2.2.2
      simp only [this]; omega
    · simp
  · simp
theorem aidGet_len {l : List Int} (hb : Bytes l) (a : Int) : (aidGetS l a).1.length ≤ 255 := by
  have := getRow_len hb a
  unfold aidGetS
  split
  · split
    · exact this
    · simp
  · simp
theorem aidPut_len (l : List Int) : (aidPutS l).1.length ≤ 17 := by
  unfold aidPutS
  split
  · rename_i h
    simp [mayA] at h
    unfold putRowS
    rw [if_neg (by omega), if_neg (by omega)]
    simp [be_length]; omega
  · simp
end Go.Proofs.YtdplpkngacfacaaW.Spec
