/- Plain words: messages as bytes. No program in sight. -/
import Derived.Test.YtfloeenjkjimmaaSpec
namespace Go.Proofs.YtfloeenjkjimmaaW.Spec
open Go Go.RowKit Go.Proofs.YtfloeenjkjimmaaW.PrintWords Go.Proofs.YtfloeenjkjimmaaW.PrintMore

def leS (b : Int) : Int := if b = 0 then 256 else b
abbrev Msg := Int × Int × Int × Int × Int × List Int × Int × Int
def noMsg : Msg := (0, 0, 0, 0, 0, [], 0, 5)
def readR (cla ins p1 p2 : Int) : List Int → Msg
  | [] => (1, cla, ins, p1, p2, [], 0, 0)
  | [x] => (2, cla, ins, p1, p2, [], leS x, 0)
  | n :: y :: tl => if n > 0 ∧ ((y :: tl).length : Int) = n then (3, cla, ins, p1, p2, y :: tl, 0, 0)
      else if n > 0 ∧ ((y :: tl).length : Int) = n + 1 then (4, cla, ins, p1, p2, (y :: tl).take n.toNat, leS ((y :: tl).getD n.toNat 0), 0) else noMsg
def readS : List Int → Msg
  | cla :: ins :: p1 :: p2 :: rest => readR cla ins p1 p2 rest
  | _ => noMsg
def mayM (c : Int) (data : List Int) (le : Int) : Bool :=
  if c = 1 then decide (le = 0 ∧ data.length = 0) else if c = 2 then decide ((1 ≤ le ∧ le ≤ 256) ∧ data.length = 0)
  else if c = 3 then decide (le = 0 ∧ (1 ≤ data.length ∧ data.length ≤ 255)) else if c = 4 then decide ((1 ≤ le ∧ le ≤ 256) ∧ (1 ≤ data.length ∧ data.length ≤ 255)) else false
def msgBytes (cla ins p1 p2 : Int) (data : List Int) (le : Int) : List Int :=
  [cla, ins, p1, p2] ++ (if data.length = 0 then [] else (data.length : Int) :: data) ++ (if le > 0 then [le % 256] else [])
def putM (c cla ins p1 p2 : Int) (data : List Int) (le : Int) : List Int × Int := if mayM c data le = true then (msgBytes cla ins p1 p2 data le, 0) else ([], 2)
def answerS (data : List Int) (s : Int) : List Int × Int := if data.length > 256 then ([], 2) else (data ++ [s / 256 % 256, s % 256], 0)
def splitS (b : List Int) : List Int × Int × Int := if b.length < 2 ∨ b.length > 258 then ([], 0, 5) else (b.take (b.length - 2), val (b.drop (b.length - 2)), 0)

theorem mayM_len {c le : Int} {data : List Int} (h : mayM c data le = true) : data.length ≤ 255 ∧ 0 ≤ le ∧ le ≤ 256 := by
  unfold mayM at h
  split at h
  · simp only [decide_eq_true_eq] at h; omega
  · split at h
    · simp only [decide_eq_true_eq] at h; omega
    · split at h
      · simp only [decide_eq_true_eq] at h; omega
      · split at h
        · simp only [decide_eq_true_eq] at h; omega
        · simp at h
/-- what is put is read. -/
theorem read_put {c cla ins p1 p2 le : Int} {data : List Int} (h : mayM c data le = true) : readS (msgBytes cla ins p1 p2 data le) = (c, cla, ins, p1, p2, data, le, 0) := by
  have hl := mayM_len h
  unfold mayM at h
  unfold msgBytes
  have hle : leS (le % 256) = if le = 0 then 256 else le := by unfold leS; split <;> split <;> omega
  cases data with
  | nil =>
    simp only [List.length_nil, if_true, List.append_nil, List.cons_append, List.nil_append]
    by_cases h0 : le > 0
    · have hc : c = 2 := by
        split at h
        · simp at h; omega
        · split at h
          · assumption
          · split at h
            · simp at h
            · split at h
              · simp at h
              · simp at h
      rw [if_pos h0]
      simp only [readS, readR, hle]
      rw [if_neg (by omega), hc]
    · have h00 : le = 0 := by omega
      have hc : c = 1 := by
        split at h
        · assumption
        · split at h
          · simp at h; omega
          · split at h
            · simp at h
            · split at h
              · simp at h
              · simp at h
      rw [if_neg h0, hc, h00]
      simp only [readS, readR]
  | cons x xs =>
    rw [if_neg (by simp)]
    simp only [List.cons_append, List.nil_append]
    by_cases h0 : le > 0
    · have hc : c = 4 := by
        split at h
        · simp at h
        · split at h
          · simp at h
          · split at h
            · simp at h; omega
            · split at h
              · assumption
              · simp at h
      rw [if_pos h0]
      simp only [readS, readR]
      have hlen : ((x :: (xs ++ [le % 256])).length : Int) = ((x :: xs).length : Int) + 1 := by simp
      rw [if_neg (by rw [hlen]; omega), if_pos ⟨by simp only [List.length_cons]; omega, hlen⟩]
      have e1 : ((x :: (xs ++ [le % 256])).take (((x :: xs).length : Nat) : Int).toNat) = x :: xs := by
        rw [Int.toNat_natCast, ← List.cons_append, List.take_left]
      have e2 : ((x :: (xs ++ [le % 256])).getD (((x :: xs).length : Nat) : Int).toNat 0) = le % 256 := by
        rw [Int.toNat_natCast, ← List.cons_append, List.getD_eq_getElem?_getD, List.getElem?_append_right (Nat.le_refl _)]
        simp
      rw [e1, e2, hle, if_neg (by omega), hc]
    · have h00 : le = 0 := by omega
      have hc : c = 3 := by
        split at h
        · simp at h
        · split at h
          · simp at h
          · split at h
            · assumption
            · split at h
              · simp at h; omega
              · simp at h
      rw [if_neg h0, hc, h00]
      simp only [List.append_nil, readS, readR]
      rw [if_pos (by simp)]
/-- what is read is put as the same bytes. -/
theorem put_read {l : List Int} (hb : Bytes l) {c cla ins p1 p2 le : Int} {data : List Int} (h : readS l = (c, cla, ins, p1, p2, data, le, 0)) : mayM c data le = true ∧ msgBytes cla ins p1 p2 data le = l := by
  match l, h with
  | [], h => simp [readS, noMsg] at h
  | [_], h => simp [readS, noMsg] at h
  | [_, _], h => simp [readS, noMsg] at h
  | [_, _, _], h => simp [readS, noMsg] at h
  | [a, b, d, e], h =>
    simp only [readS, readR, Prod.mk.injEq] at h
    obtain ⟨rfl, rfl, rfl, rfl, rfl, rfl, rfl, _⟩ := h
    exact ⟨by decide, by simp [msgBytes]⟩
  | [a, b, d, e, x], h =>
    simp only [readS, readR, Prod.mk.injEq] at h
    obtain ⟨rfl, rfl, rfl, rfl, rfl, rfl, rfl, _⟩ := h
    have hx := hb x (by simp)
    have hr : 1 ≤ leS x ∧ leS x ≤ 256 ∧ leS x % 256 = x := by unfold leS; split <;> omega
    refine ⟨by simp [mayM]; omega, ?_⟩
    unfold msgBytes
    rw [if_pos (by simp), if_pos (by omega), hr.2.2]
    rfl
  | a :: b :: d :: e :: n :: y :: tl, h =>
    simp only [readS, readR] at h
    have hn := hb n (by simp)
    split at h
    · rename_i h1
      simp only [Prod.mk.injEq] at h
      obtain ⟨rfl, rfl, rfl, rfl, rfl, rfl, rfl, _⟩ := h
      have hlen := h1.2
      simp only [List.length_cons] at hlen
      refine ⟨by simp only [mayM]; simp; omega, ?_⟩
      unfold msgBytes
      rw [if_neg (by simp), if_neg (by omega), h1.2]
      simp
    · split at h
      · rename_i _ h1
        simp only [Prod.mk.injEq] at h
        obtain ⟨rfl, rfl, rfl, rfl, rfl, rfl, rfl, _⟩ := h
        have hlen := h1.2
        simp only [List.length_cons] at hlen
        have hlt : n.toNat < (y :: tl).length := by simp only [List.length_cons]; omega
        have hz := hb ((y :: tl).getD n.toNat 0) (by
          rw [List.getD_eq_getElem?_getD, List.getElem?_eq_getElem hlt]
          have := List.getElem_mem hlt
          simp only [Option.getD_some, List.mem_cons] at this ⊢
          rcases this with h | h
          · exact .inr (.inr (.inr (.inr (.inr (.inl h)))))
          · exact .inr (.inr (.inr (.inr (.inr (.inr h))))))
        generalize hg : (y :: tl).getD n.toNat 0 = z at hz ⊢
        have hr : 1 ≤ leS z ∧ leS z ≤ 256 ∧ leS z % 256 = z := by unfold leS; split <;> omega
        have ht : ((y :: tl).take n.toNat).length = n.toNat := by rw [List.length_take]; omega
        refine ⟨by simp only [mayM]; rw [ht]; simp; omega, ?_⟩
        unfold msgBytes
        rw [ht, if_neg (by omega), if_pos (by omega), hr.2.2, show ((n.toNat : Nat) : Int) = n from by omega]
        have hd : y :: tl = (y :: tl).take n.toNat ++ [z] := by
          have h1 := (List.take_append_drop n.toNat (y :: tl)).symm
          have h2 : (y :: tl).drop n.toNat = [z] := by
            have h3 : ((y :: tl).drop n.toNat).length = 1 := by rw [List.length_drop]; simp only [List.length_cons]; omega
            obtain ⟨w, hw⟩ := List.length_eq_one_iff.1 h3
            rw [hw]
            have h4 : (y :: tl)[n.toNat]? = some w := by
              have := congrArg (fun l : List Int => l[0]?) hw
              simpa [List.getElem?_drop] using this
            rw [List.getD_eq_getElem?_getD, h4] at hg
            simp at hg
            rw [hg]
          rw [h2] at h1
          exact h1
        simp only [List.cons_append, List.nil_append]
        rw [← hd]
      · simp [noMsg] at h
theorem split_answer {data : List Int} {s : Int} (h : data.length ≤ 256) (hs : 0 ≤ s ∧ s ≤ 65535) : splitS (data ++ [s / 256 % 256, s % 256]) = (data, s, 0) := by
  unfold splitS
  have hl : (data ++ [s / 256 % 256, s % 256]).length - 2 = data.length := by simp
  rw [if_neg (by simp; omega), hl, List.take_left, List.drop_left, val_two]
  rw [show 256 * (s / 256 % 256) + s % 256 = s from by omega]
end Go.Proofs.YtfloeenjkjimmaaW.Spec
