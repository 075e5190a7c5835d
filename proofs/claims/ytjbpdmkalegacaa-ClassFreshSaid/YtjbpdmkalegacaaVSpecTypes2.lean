/- Plain words: what is put of types and signatures is got, and the other way round. No program in sight. -/
import Derived.Test.YtjbpdmkalegacaaVSpecTypes
namespace Go.Proofs.YtjbpdmkalegacaaW.Spec
open Go Go.RowKit Go.Proofs.YtjbpdmkalegacaaW.PrintWords Go.Proofs.YtjbpdmkalegacaaW.PrintMore
theorem get1 {l : List Int} {a : Int} (h : (getS l a 1).2 = 0) : ∃ x, (l.drop a.toNat).take 1 = [x] ∧ (getS l a 1).1 = x := by
  have p := get_place (s := 1) (by decide) h
  have hp : (partS l a 1).2 = 0 := by unfold getS at h; rw [if_pos (by decide)] at h; exact h
  obtain ⟨_, _, _, e, hl⟩ := part_length hp
  match hx : (partS l a 1).1, hl with
  | [x], _ =>
    refine ⟨x, ?_, ?_⟩
    · rw [← hx, e]; rfl
    · unfold getS; rw [if_pos (by decide), hx, val_one]
theorem get2 {l : List Int} {a : Int} (h : (getS l a 2).2 = 0) : ∃ x y, (l.drop a.toNat).take 2 = [x, y] ∧ (getS l a 2).1 = 256 * x + y := by
  have p := get_place (s := 2) (by decide) h
  have hp : (partS l a 2).2 = 0 := by unfold getS at h; rw [if_pos (by decide)] at h; exact h
  obtain ⟨_, _, _, e, hl⟩ := part_length hp
  match hx : (partS l a 2).1, hl with
  | [x, y], _ =>
    refine ⟨x, y, ?_, ?_⟩
    · rw [← hx, e]; rfl
    · unfold getS; rw [if_pos (by decide), hx, val_two]
/-- so many bytes, and so many behind. -/
theorem take_drop_add (l : List Int) (a m n : Nat) : (l.drop a).take (m + n) = (l.drop a).take m ++ (l.drop (a + m)).take n := by
  rw [List.take_add, List.drop_drop]
theorem mem_take_drop {l : List Int} (hb : Bytes l) {a n : Nat} {x : Int} (h : x ∈ (l.drop a).take n) : 0 ≤ x ∧ x ≤ 255 := hb x (List.mem_of_mem_drop (List.mem_of_mem_take h))
/-- the bytes of a type that is got. -/
theorem getT_back {l : List Int} (hb : Bytes l) {a : Int} (h : (getT l a).2.2 = 0) :
    mayT (getT l a).1 = true ∧ 0 ≤ (getT l a).1.2 ∧ (getT l a).1.2 ≤ 65535 ∧ bytesT (getT l a).1 = (l.drop a.toNat).take ((getT l a).2.1 - a).toNat := by
  have hp := getT_place h
  unfold getT at h hp ⊢
  by_cases h1 : (getS l a 1).2 = 0
  · rw [if_pos h1] at h hp ⊢
    obtain ⟨x, hx, ex⟩ := get1 h1
    by_cases h2 : ofS (getS l a 1).1 = 0
    · rw [if_pos h2] at h; simp at h
    · rw [if_neg h2] at h hp ⊢
      have hr := ofS_range (getS l a 1).1
      by_cases h3 : ofS (getS l a 1).1 = 1
      · rw [if_pos h3] at h hp ⊢
        refine ⟨by simp [mayT, h3], by simp, by simp, ?_⟩
        have e : (a + 1 - a).toNat = 1 := by omega
        simp only
        rw [e, hx]
        simp only [bytesT]
        rw [if_neg (by omega), ex]
      · rw [if_neg h3] at h hp ⊢
        have h3' : ofS (getS l a 1).1 = 2 := by omega
        by_cases h4 : (getS l (a + 1) 2).2 = 0
        · rw [if_pos h4] at h hp ⊢
          obtain ⟨y, z, hyz, eyz⟩ := get2 h4
          have hy := mem_take_drop hb (x := y) (by rw [hyz]; simp)
          have hz := mem_take_drop hb (x := z) (by rw [hyz]; simp)
          have p1 := get_place (s := 1) (by decide) h1
          refine ⟨by simp [mayT, h3'], by simp only; omega, by simp only; omega, ?_⟩
          have e : (a + 3 - a).toNat = 1 + 2 := by omega
          have e2 : (a + 1).toNat = a.toNat + 1 := by omega
          simp only
          rw [e, take_drop_add, hx, ← e2, hyz]
          simp only [bytesT]
          rw [if_pos h3']
          simp only [List.cons_append, List.nil_append, List.cons.injEq, and_true]
          omega
        · rw [if_neg h4] at h; simp at h; omega
  · rw [if_neg h1] at h; simp at h; omega
theorem getTs_back {l : List Int} (hb : Bytes l) : ∀ {n : Nat} {a : Int}, 0 ≤ a → a ≤ l.length → (getTs l n a).2.2 = 0 →
    (getTs l n a).1.all mayT = true ∧ (∀ t ∈ (getTs l n a).1, 0 ≤ t.2 ∧ t.2 ≤ 65535) ∧ (getTs l n a).1.flatMap bytesT = (l.drop a.toNat).take ((getTs l n a).2.1 - a).toNat
  | 0, a, h0, h1, _ => by simp [getTs]
  | n + 1, a, h0, h1, h => by
    by_cases e1 : (getT l a).2.2 = 0
    · have p := getT_place e1
      have q := getT_back hb e1
      by_cases e2 : (getTs l n (getT l a).2.1).2.2 = 0
      · have e : getTs l (n + 1) a = ((getT l a).1 :: (getTs l n (getT l a).2.1).1, (getTs l n (getT l a).2.1).2.1, 0) := by simp only [getTs]; rw [if_pos e1, if_pos e2]
        have r := getTs_back hb (n := n) (by omega) p.2.2.1 e2
        have s := getTs_place (n := n) (by omega) p.2.2.1 e2
        rw [e]
        refine ⟨by simp [q.1, r.1], ?_, ?_⟩
        · intro t ht
          rcases List.mem_cons.1 ht with rfl | ht
          · exact ⟨q.2.1, q.2.2.1⟩
          · exact r.2.1 t ht
        · simp only [List.flatMap_cons]
          rw [q.2.2.2, r.2.2]
          have e3 : ((getTs l n (getT l a).2.1).2.1 - a).toNat = ((getT l a).2.1 - a).toNat + ((getTs l n (getT l a).2.1).2.1 - (getT l a).2.1).toNat := by omega
          have e4 : (getT l a).2.1.toNat = a.toNat + ((getT l a).2.1 - a).toNat := by omega
          rw [e3, take_drop_add, ← e4]
      · have e : getTs l (n + 1) a = ([], 0, (getTs l n (getT l a).2.1).2.2) := by simp only [getTs]; rw [if_pos e1, if_neg e2]
        rw [e] at h; exact absurd h e2
    · have e : getTs l (n + 1) a = ([], 0, (getT l a).2.2) := by simp only [getTs]; rw [if_neg e1]
      rw [e] at h; exact absurd h e1
/-- the bytes of a signature that is got, at any place. -/
theorem getSig_back_at {l : List Int} (hb : Bytes l) {a : Int} (h : (getSigS l a).2.2.2 = 0) :
    maySig (getSigS l a).1 (getSigS l a).2.1 = true ∧ (0 ≤ (getSigS l a).2.1.2 ∧ (getSigS l a).2.1.2 ≤ 65535) ∧ (∀ t ∈ (getSigS l a).1, 0 ≤ t.2 ∧ t.2 ≤ 65535) ∧
      sigBytes (getSigS l a).1 (getSigS l a).2.1 = (l.drop a.toNat).take ((getSigS l a).2.2.1 - a).toNat := by
  have hl := getSig_len l a
  unfold getSigS at h hl ⊢
  by_cases h0 : (getS l a 1).2 = 0
  · rw [if_pos h0] at h hl ⊢
    by_cases h1 : (getRet l a).2.2 = 0
    · rw [if_pos h1] at h hl ⊢
      by_cases h2 : (getS l (getRet l a).2.1 1).2 = 0
      · rw [if_pos h2] at h hl ⊢
        by_cases h3 : (getS l (getRet l a).2.1 1).1 > 15
        · rw [if_pos h3] at h; simp at h
        · rw [if_neg h3] at h hl ⊢
          by_cases h4 : (getTs l (getS l (getRet l a).2.1 1).1.toNat ((getRet l a).2.1 + 1)).2.2 = 0
          · rw [if_pos h4] at hl ⊢
            have p0 := get_place (s := 1) (by decide) h0
            have p := get_place (s := 1) (by decide) h2
            have q := getTs_place (by omega) (by omega) h4
            have r := getTs_back hb (by omega) (by omega) h4
            have hg := get_range hb (getRet l a).2.1 1
            obtain ⟨x, hx, ex⟩ := get1 h2
            have ret : a < (getRet l a).2.1 ∧ ((getRet l a).1 = (0, 0) ∨ mayT (getRet l a).1 = true) ∧ 0 ≤ (getRet l a).1.2 ∧ (getRet l a).1.2 ≤ 65535 ∧ retBytes (getRet l a).1 = (l.drop a.toNat).take ((getRet l a).2.1 - a).toNat := by
              unfold getRet at h1 ⊢
              by_cases hk : (getS l a 1).1 = 0
              · rw [if_pos hk]
                obtain ⟨y, hy, ey⟩ := get1 h0
                have e : (a + 1 - a).toNat = 1 := by omega
                refine ⟨by simp only; omega, .inl rfl, by simp, by simp, ?_⟩
                simp only
                rw [e, hy, ← ey, hk]
                simp [retBytes]
              · rw [if_neg hk] at h1 ⊢
                have tp := getT_place h1
                have tb := getT_back hb h1
                refine ⟨by omega, .inr tb.1, tb.2.1, tb.2.2.1, ?_⟩
                rw [← tb.2.2.2]
                unfold retBytes
                rw [if_neg]
                intro e
                rw [e] at tp
                simp at tp
            simp only at hl ⊢
            refine ⟨?_, ⟨ret.2.2.1, ret.2.2.2.1⟩, r.2.1, ?_⟩
            · simp only [maySig, Bool.and_eq_true, decide_eq_true_eq, Bool.or_eq_true, beq_iff_eq]
              exact ⟨⟨ret.2.1, hl⟩, r.1⟩
            · unfold sigBytes
              rw [ret.2.2.2.2, r.2.2, q.1]
              have e1 : ((getTs l (getS l (getRet l a).2.1 1).1.toNat ((getRet l a).2.1 + 1)).2.1 - a).toNat = ((getRet l a).2.1 - a).toNat + (1 + ((getTs l (getS l (getRet l a).2.1 1).1.toNat ((getRet l a).2.1 + 1)).2.1 - ((getRet l a).2.1 + 1)).toNat) := by omega
              have e2 : (getRet l a).2.1.toNat = a.toNat + ((getRet l a).2.1 - a).toNat := by omega
              have e3 : ((getRet l a).2.1 + 1).toNat = (getRet l a).2.1.toNat + 1 := by omega
              rw [e1, take_drop_add, take_drop_add, ← e2, hx, ← e3, ← ex]
              rw [show (((getS l (getRet l a).2.1 1).1.toNat : Nat) : Int) = (getS l (getRet l a).2.1 1).1 from by omega]
              simp
          · rw [if_neg h4] at h; exact absurd h h4
      · rw [if_neg h2] at h; exact absurd h h2
    · rw [if_neg h1] at h; exact absurd h h1
  · rw [if_neg h0] at h; exact absurd h h0
def okT (t : Ty) : Prop := 0 ≤ t.1 ∧ t.1 ≤ 255 ∧ 0 ≤ t.2 ∧ t.2 ≤ 65535
theorem flat_len : ∀ l : List Ty, (l.flatMap bytesT).length ≤ 3 * l.length
  | [] => by simp
  | x :: l => by
    have : (bytesT x).length ≤ 3 := by unfold bytesT; split <;> simp
    have := flat_len l
    simp only [List.flatMap_cons, List.length_append, List.length_cons]; omega
theorem sig_len (ps : List Ty) (r : Ty) : (sigBytes ps r).length ≤ 4 + 3 * ps.length := by
  have h3 := flat_len ps
  have h4 : (retBytes r).length ≤ 3 := by unfold retBytes bytesT; split <;> (try split) <;> simp
  simp only [sigBytes, List.length_append, List.length_singleton]
  omega
end Go.Proofs.YtjbpdmkalegacaaW.Spec
