/- Plain words: what is put of types and signatures is got, and the other way round. No program in sight. -/
import Derived.Test.YtjbpdmkalegacaaSpecTypes
namespace Go.Proofs.YtjbpdmkalegacaaW.Spec
open Go Go.RowKit Go.Proofs.YtjbpdmkalegacaaW.PrintWords Go.Proofs.YtjbpdmkalegacaaW.PrintMore

theorem getSig_err {l : List Int} {a : Int} (h : (getSigS l a).2.2.2 ≠ 0) : (getSigS l a).2.2.1 = 0 := by
  unfold getSigS at h ⊢
  by_cases h0 : (getS l a 1).2 = 0
  · rw [if_pos h0] at h ⊢
    by_cases h1 : (getRet l a).2.2 = 0
    · rw [if_pos h1] at h ⊢
      by_cases h2 : (getS l (getRet l a).2.1 1).2 = 0
      · rw [if_pos h2] at h ⊢
        by_cases h3 : (getS l (getRet l a).2.1 1).1 > 15
        · rw [if_pos h3]
        · rw [if_neg h3] at h ⊢
          by_cases h4 : (getTs l (getS l (getRet l a).2.1 1).1.toNat ((getRet l a).2.1 + 1)).2.2 = 0
          · rw [if_pos h4] at h; simp at h
          · rw [if_neg h4]
      · rw [if_neg h2]
    · rw [if_neg h1]
  · rw [if_neg h0]
theorem get1 {l : List Int} {a : Int} (h : (getS l a 1).2 = 0) : ∃ x, (l.drop a.toNat).take 1 = [x] ∧ (getS l a 1).1 = x := by
  have p := get_place (s := 1) (by decide) h
  have hp : (partS l a 1).2 = 0 := by unfold getS at h; rw [if_pos (by decide)] at h; exact h
  obtain ⟨_, _, _, e, hl⟩ := part_length hp
  match hx : (partS l a 1).1, hl with
  | [x], _ =>
    refine ⟨x, ?_, ?_⟩
    · rw [← hx, e]; rfl
    · unfold getS; rw [if_pos (by decide), hx, val_one]
theorem get2 {l : List Int} {a : Int} (h : (getS l a 2).2 = 0) : ∃ x y, (l.drop a.toNat).take 2 = [x, y] ∧ (getS l a 2).1 = 256 * x + y := by
  have p := get_place (s := 2) (by decide) h
  have hp : (partS l a 2).2 = 0 := by unfold getS at h; rw [if_pos (by decide)] at h; exact h
  obtain ⟨_, _, _, e, hl⟩ := part_length hp
  match hx : (partS l a 2).1, hl with
  | [x, y], _ =>
    refine ⟨x, y, ?_, ?_⟩
    · rw [← hx, e]; rfl
    · unfold getS; rw [if_pos (by decide), hx, val_two]
/-- so many bytes, and so many behind. -/
theorem take_drop_add (l : List Int) (a m n : Nat) : (l.drop a).take (m + n) = (l.drop a).take m ++ (l.drop (a + m)).take n := by
  rw [List.take_add, List.drop_drop]
theorem mem_take_drop {l : List Int} (hb : Bytes l) {a n : Nat} {x : Int} (h : x ∈ (l.drop a).take n) : 0 ≤ x ∧ x ≤ 255 := hb x (List.mem_of_mem_drop (List.mem_of_mem_take h))
/-- the bytes of a type that is got. -/
theorem getT_back {l : List Int} (hb : Bytes l) {a : Int} (h : (getT l a).2.2 = 0) :
    mayT (getT l a).1 = true ∧ 0 ≤ (getT l a).1.2 ∧ (getT l a).1.2 ≤ 65535 ∧ bytesT (getT l a).1 = (l.drop a.toNat).take ((getT l a).2.1 - a).toNat := by
  have hp := getT_place h
  unfold getT at h hp ⊢
  by_cases h1 : (getS l a 1).2 = 0
  · rw [if_pos h1] at h hp ⊢
    obtain ⟨x, hx, ex⟩ := get1 h1
    by_cases h2 : ofS (getS l a 1).1 = 0
    · rw [if_pos h2] at h; simp at h
    · rw [if_neg h2] at h hp ⊢
      have hr := ofS_range (getS l a 1).1
      by_cases h3 : ofS (getS l a 1).1 = 1
      · rw [if_pos h3] at h hp ⊢
        refine ⟨by simp [mayT, h3], by simp, by simp, ?_⟩
        have e : (a + 1 - a).toNat = 1 := by omega
        simp only
        rw [e, hx]
        simp only [bytesT]
        rw [if_neg (by omega), ex]
      · rw [if_neg h3] at h hp ⊢
        have h3' : ofS (getS l a 1).1 = 2 := by omega
        by_cases h4 : (getS l (a + 1) 2).2 = 0
        · rw [if_pos h4] at h hp ⊢
          obtain ⟨y, z, hyz, eyz⟩ := get2 h4
          have hy := mem_take_drop hb (x := y) (by rw [hyz]; simp)
          have hz := mem_take_drop hb (x := z) (by rw [hyz]; simp)
          have p1 := get_place (s := 1) (by decide) h1
          refine ⟨by simp [mayT, h3'], by simp only; omega, by simp only; omega, ?_⟩
          have e : (a + 3 - a).toNat = 1 + 2 := by omega
          have e2 : (a + 1).toNat = a.toNat + 1 := by omega
          simp only
          rw [e, take_drop_add, hx, ← e2, hyz]
          simp only [bytesT]
          rw [if_pos h3']
          simp only [List.cons_append, List.nil_append, List.cons.injEq, and_true]
          omega
        · rw [if_neg h4] at h; simp at h; omega
  · rw [if_neg h1] at h; simp at h; omega
theorem getTs_back {l : List Int} (hb : Bytes l) : ∀ {n : Nat} {a : Int}, 0 ≤ a → a ≤ l.length → (getTs l n a).2.2 = 0 →
    (getTs l n a).1.all mayT = true ∧ (∀ t ∈ (getTs l n a).1, 0 ≤ t.2 ∧ t.2 ≤ 65535) ∧ (getTs l n a).1.flatMap bytesT = (l.drop a.toNat).take ((getTs l n a).2.1 - a).toNat
  | 0, a, h0, h1, _ => by simp [getTs]
  | n + 1, a, h0, h1, h => by
    by_cases e1 : (getT l a).2.2 = 0
    · have p := getT_place e1
      have q := getT_back hb e1
      by_cases e2 : (getTs l n (getT l a).2.1).2.2 = 0
      · have e : getTs l (n + 1) a = ((getT l a).1 :: (getTs l n (getT l a).2.1).1, (getTs l n (getT l a).2.1).2.1, 0) := by simp only [getTs]; rw [if_pos e1, if_pos e2]
        have r := getTs_back hb (n := n) (by omega) p.2.2.1 e2
        have s := getTs_place (n := n) (by omega) p.2.2.1 e2
        rw [e]
        refine ⟨by simp [q.1, r.1], ?_, ?_⟩
        · intro t ht
          rcases List.mem_cons.1 ht with rfl | ht
          · exact ⟨q.2.1, q.2.2.1⟩
          · exact r.2.1 t ht
        · simp only [List.flatMap_cons]
          rw [q.2.2.2, r.2.2]
          have e3 : ((getTs l n (getT l a).2.1).2.1 - a).toNat = ((getT l a).2.1 - a).toNat + ((getTs l n (getT l a).2.1).2.1 - (getT l a).2.1).toNat := by omega
          have e4 : (getT l a).2.1.toNat = a.toNat + ((getT l a).2.1 - a).toNat := by omega
          rw [e3, take_drop_add, ← e4]
      · have e : getTs l (n + 1) a = ([], 0, (getTs l n (getT l a).2.1).2.2) := by simp only [getTs]; rw [if_pos e1, if_neg e2]
        rw [e] at h; exact absurd h e2
    · have e : getTs l (n + 1) a = ([], 0, (getT l a).2.2) := by simp only [getTs]; rw [if_neg e1]
      rw [e] at h; exact absurd h e1
/-- the bytes of a signature that is got, at any place. -/
theorem getSig_back_at {l : List Int} (hb : Bytes l) {a : Int} (h : (getSigS l a).2.2.2 = 0) :
    maySig (getSigS l a).1 (getSigS l a).2.1 = true ∧ (0 ≤ (getSigS l a).2.1.2 ∧ (getSigS l a).2.1.2 ≤ 65535) ∧ (∀ t ∈ (getSigS l a).1, 0 ≤ t.2 ∧ t.2 ≤ 65535) ∧
      sigBytes (getSigS l a).1 (getSigS l a).2.1 = (l.drop a.toNat).take ((getSigS l a).2.2.1 - a).toNat := by
  have hl := getSig_len l a
  unfold getSigS at h hl ⊢
  by_cases h0 : (getS l a 1).2 = 0
  · rw [if_pos h0] at h hl ⊢
    by_cases h1 : (getRet l a).2.2 = 0
    · rw [if_pos h1] at h hl ⊢
      by_cases h2 : (getS l (getRet l a).2.1 1).2 = 0
      · rw [if_pos h2] at h hl ⊢
        by_cases h3 : (getS l (getRet l a).2.1 1).1 > 15
        · rw [if_pos h3] at h; simp at h
        · rw [if_neg h3] at h hl ⊢
          by_cases h4 : (getTs l (getS l (getRet l a).2.1 1).1.toNat ((getRet l a).2.1 + 1)).2.2 = 0
          · rw [if_pos h4] at hl ⊢
            have p0 := get_place (s := 1) (by decide) h0
            have p := get_place (s := 1) (by decide) h2
            have q := getTs_place (by omega) (by omega) h4
            have r := getTs_back hb (by omega) (by omega) h4
            have hg := get_range hb (getRet l a).2.1 1
            obtain ⟨x, hx, ex⟩ := get1 h2
            have ret : a < (getRet l a).2.1 ∧ ((getRet l a).1 = (0, 0) ∨ mayT (getRet l a).1 = true) ∧ 0 ≤ (getRet l a).1.2 ∧ (getRet l a).1.2 ≤ 65535 ∧ retBytes (getRet l a).1 = (l.drop a.toNat).take ((getRet l a).2.1 - a).toNat := by
              unfold getRet at h1 ⊢
              by_cases hk : (getS l a 1).1 = 0
              · rw [if_pos hk]
                obtain ⟨y, hy, ey⟩ := get1 h0
                have e : (a + 1 - a).toNat = 1 := by omega
                refine ⟨by simp only; omega, .inl rfl, by simp, by simp, ?_⟩
                simp only
                rw [e, hy, ← ey, hk]
                simp [retBytes]
              · rw [if_neg hk] at h1 ⊢
                have tp := getT_place h1
                have tb := getT_back hb h1
                refine ⟨by omega, .inr tb.1, tb.2.1, tb.2.2.1, ?_⟩
                rw [← tb.2.2.2]
                unfold retBytes
                rw [if_neg]
                intro e
                rw [e] at tp
                simp at tp
            simp only at hl ⊢
            refine ⟨?_, ⟨ret.2.2.1, ret.2.2.2.1⟩, r.2.1, ?_⟩
            · simp only [maySig, Bool.and_eq_true, decide_eq_true_eq, Bool.or_eq_true, beq_iff_eq]
              exact ⟨⟨ret.2.1, hl⟩, r.1⟩
            · unfold sigBytes
              rw [ret.2.2.2.2, r.2.2, q.1]
              have e1 : ((getTs l (getS l (getRet l a).2.1 1).1.toNat ((getRet l a).2.1 + 1)).2.1 - a).toNat = ((getRet l a).2.1 - a).toNat + (1 + ((getTs l (getS l (getRet l a).2.1 1).1.toNat ((getRet l a).2.1 + 1)).2.1 - ((getRet l a).2.1 + 1)).toNat) := by omega
              have e2 : (getRet l a).2.1.toNat = a.toNat + ((getRet l a).2.1 - a).toNat := by omega
              have e3 : ((getRet l a).2.1 + 1).toNat = (getRet l a).2.1.toNat + 1 := by omega
              rw [e1, take_drop_add, take_drop_add, ← e2, hx, ← e3, ← ex]
              rw [show (((getS l (getRet l a).2.1 1).1.toNat : Nat) : Int) = (getS l (getRet l a).2.1 1).1 from by omega]
              simp
          · rw [if_neg h4] at h; exact absurd h h4
      · rw [if_neg h2] at h; exact absurd h h2
    · rw [if_neg h1] at h; exact absurd h h1
  · rw [if_neg h0] at h; exact absurd h h0
theorem getSig_back {l : List Int} (hb : Bytes l) (h : (getSigS l 0).2.2.2 = 0) :
    maySig (getSigS l 0).1 (getSigS l 0).2.1 = true ∧ (0 ≤ (getSigS l 0).2.1.2 ∧ (getSigS l 0).2.1.2 ≤ 65535) ∧ (∀ t ∈ (getSigS l 0).1, 0 ≤ t.2 ∧ t.2 ≤ 65535) ∧
      sigBytes (getSigS l 0).1 (getSigS l 0).2.1 = l.take (getSigS l 0).2.2.1.toNat := by
  have := getSig_back_at hb h
  simpa using this
def okT (t : Ty) : Prop := 0 ≤ t.1 ∧ t.1 ≤ 255 ∧ 0 ≤ t.2 ∧ t.2 ≤ 65535
theorem get1_mid (a c : List Int) (x : Int) : getS (a ++ [x] ++ c) a.length 1 = (x, 0) := by
  have := part_mid a [x] c
  unfold getS
  rw [if_pos (by decide)]
  have e : (([x] : List Int).length : Int) = 1 := rfl
  rw [e] at this
  rw [this, val_one]
theorem get2_mid (a c : List Int) (x y : Int) : getS (a ++ [x, y] ++ c) a.length 2 = (256 * x + y, 0) := by
  have := part_mid a [x, y] c
  unfold getS
  rw [if_pos (by decide)]
  have e : (([x, y] : List Int).length : Int) = 2 := rfl
  rw [e] at this
  rw [this, val_two]
theorem bytesT_bytes {t : Ty} (h : okT t) : Bytes (bytesT t) := by
  unfold okT at h
  unfold bytesT
  intro x hx
  split at hx
  · simp at hx; omega
  · simp at hx; omega
theorem getT_put {t : Ty} (hm : mayT t = true) (ht : okT t) (a c : List Int) : getT (a ++ bytesT t ++ c) a.length = (t, (a.length : Int) + (bytesT t).length, 0) := by
  unfold okT at ht
  have hr := ofS_range t.1
  by_cases h2 : ofS t.1 = 2
  · have eb : bytesT t = [t.1, t.2 / 256 % 256, t.2 % 256] := by unfold bytesT; rw [if_pos h2]
    rw [eb]
    have g1 := get1_mid a ([t.2 / 256 % 256, t.2 % 256] ++ c) t.1
    have g2 := get2_mid (a ++ [t.1]) c (t.2 / 256 % 256) (t.2 % 256)
    have e1 : a ++ [t.1, t.2 / 256 % 256, t.2 % 256] ++ c = a ++ [t.1] ++ ([t.2 / 256 % 256, t.2 % 256] ++ c) := by simp
    have e2 : a ++ [t.1, t.2 / 256 % 256, t.2 % 256] ++ c = a ++ [t.1] ++ [t.2 / 256 % 256, t.2 % 256] ++ c := by simp
    rw [← e1] at g1
    rw [← e2] at g2
    have e3 : (((a ++ [t.1]).length : Nat) : Int) = (a.length : Int) + 1 := by simp
    rw [e3] at g2
    unfold getT
    rw [g1, g2]
    simp only
    rw [if_pos (by simp), if_neg (by omega), if_neg (by omega), if_pos (by simp)]
    have e4 : 256 * (t.2 / 256 % 256) + t.2 % 256 = t.2 := by omega
    rw [e4]
    simp
  · have h1 : ofS t.1 = 1 ∧ t.2 = 0 := by
      simp only [mayT, Bool.or_eq_true, Bool.and_eq_true, beq_iff_eq] at hm
      omega
    have eb : bytesT t = [t.1] := by unfold bytesT; rw [if_neg h2]
    rw [eb]
    have g1 := get1_mid a c t.1
    unfold getT
    rw [g1]
    simp only
    rw [if_pos (by simp), if_neg (by omega), if_pos h1.1]
    have : t = (t.1, 0) := by rw [← h1.2]
    rw [← this]
    simp
theorem getTs_put : ∀ (ts : List Ty) (a c : List Int), ts.all mayT = true → (∀ t ∈ ts, okT t) → getTs (a ++ ts.flatMap bytesT ++ c) ts.length a.length = (ts, (a.length : Int) + (ts.flatMap bytesT).length, 0)
  | [], a, c, _, _ => by simp [getTs]
  | t :: ts, a, c, hm, ht => by
    simp only [List.all_cons, Bool.and_eq_true] at hm
    have h1 := getT_put hm.1 (ht t List.mem_cons_self) a (ts.flatMap bytesT ++ c)
    have h2 := getTs_put ts (a ++ bytesT t) c hm.2 (fun x hx => ht x (List.mem_cons_of_mem _ hx))
    have e1 : a ++ (t :: ts).flatMap bytesT ++ c = a ++ bytesT t ++ (ts.flatMap bytesT ++ c) := by simp
    have e2 : a ++ (t :: ts).flatMap bytesT ++ c = a ++ bytesT t ++ ts.flatMap bytesT ++ c := by simp
    rw [← e1] at h1
    rw [← e2] at h2
    have e3 : (((a ++ bytesT t).length : Nat) : Int) = (a.length : Int) + (bytesT t).length := by simp
    rw [e3] at h2
    simp only [List.length_cons, getTs]
    rw [h1]
    simp only
    rw [if_pos (by simp), h2]
    simp only
    rw [if_pos (by simp)]
    simp only [List.flatMap_cons, List.length_append]
    rw [show (a.length : Int) + ((bytesT t).length : Int) + ((ts.flatMap bytesT).length : Int) = (a.length : Int) + (((bytesT t).length + (ts.flatMap bytesT).length : Nat) : Int) from by omega]
theorem flat_len : ∀ l : List Ty, (l.flatMap bytesT).length ≤ 3 * l.length
  | [] => by simp
  | x :: l => by
    have : (bytesT x).length ≤ 3 := by unfold bytesT; split <;> simp
    have := flat_len l
    simp only [List.flatMap_cons, List.length_append, List.length_cons]; omega
theorem flat_bytes : ∀ {l : List Ty}, (∀ t ∈ l, okT t) → Bytes (l.flatMap bytesT)
  | [], _ => by simp [bytes_nil]
  | x :: l, h => by
    simp only [List.flatMap_cons]
    exact bytes_append (bytesT_bytes (h x List.mem_cons_self)) (flat_bytes (fun t ht => h t (List.mem_cons_of_mem _ ht)))
theorem sig_bytes {ps : List Ty} {r : Ty} (hps : ps.length ≤ 255) (hp : ∀ t ∈ ps, okT t) (hr : okT r) : Bytes (sigBytes ps r) := by
  unfold sigBytes retBytes
  refine bytes_append (bytes_append ?_ ?_) (flat_bytes hp)
  · split
    · intro x hx; simp at hx; omega
    · exact bytesT_bytes hr
  · intro x hx; simp at hx; omega
theorem sig_len (ps : List Ty) (r : Ty) : (sigBytes ps r).length ≤ 4 + 3 * ps.length := by
  have h3 := flat_len ps
  have h4 : (retBytes r).length ≤ 3 := by unfold retBytes bytesT; split <;> (try split) <;> simp
  simp only [sigBytes, List.length_append, List.length_singleton]
  omega
/-- what is put of a signature is got, whatever is ahead and behind. -/
theorem getSig_put_mid {ps : List Ty} {r : Ty} (hm : maySig ps r = true) (hp : ∀ t ∈ ps, okT t) (hr : okT r) (a c : List Int) :
    getSigS (a ++ sigBytes ps r ++ c) a.length = (ps, r, (a.length : Int) + (sigBytes ps r).length, 0) := by
  have hm' := hm
  simp only [maySig, Bool.and_eq_true, decide_eq_true_eq, Bool.or_eq_true, beq_iff_eq] at hm'
  obtain ⟨⟨h1, h2⟩, h3⟩ := hm'
  generalize hL : a ++ sigBytes ps r ++ c = L
  have hret : getS L a.length 1 = ((retBytes r).headD 0, 0) ∧ getRet L a.length = (r, (a.length : Int) + (retBytes r).length, 0) := by
    by_cases h0 : r = (0, 0)
    · have e : retBytes r = [0] := by unfold retBytes; rw [if_pos h0]
      have g := get1_mid a ([(ps.length : Int)] ++ ps.flatMap bytesT ++ c) 0
      have eL : a ++ [0] ++ ([(ps.length : Int)] ++ ps.flatMap bytesT ++ c) = L := by rw [← hL]; unfold sigBytes; rw [e]; simp
      rw [eL] at g
      refine ⟨by rw [g, e]; rfl, ?_⟩
      unfold getRet
      rw [g, e, h0]
      simp
    · have hmr : mayT r = true := h1.resolve_left h0
      have e : retBytes r = bytesT r := by unfold retBytes; rw [if_neg h0]
      have g := getT_put hmr hr a ([(ps.length : Int)] ++ ps.flatMap bytesT ++ c)
      have eL : a ++ bytesT r ++ ([(ps.length : Int)] ++ ps.flatMap bytesT ++ c) = L := by rw [← hL]; unfold sigBytes; rw [e]; simp
      rw [eL] at g
      have hk1 : 1 ≤ r.1 := by
        have := ofS_range r.1
        simp only [mayT, Bool.or_eq_true, Bool.and_eq_true, beq_iff_eq] at hmr
        omega
      have hs : getS L a.length 1 = (r.1, 0) := by
        obtain ⟨tl, htl⟩ : ∃ tl, bytesT r = r.1 :: tl := by unfold bytesT; split <;> exact ⟨_, rfl⟩
        have g1 := get1_mid a (tl ++ ([(ps.length : Int)] ++ ps.flatMap bytesT ++ c)) r.1
        have eL2 : a ++ [r.1] ++ (tl ++ ([(ps.length : Int)] ++ ps.flatMap bytesT ++ c)) = L := by rw [← eL, htl]; simp
        rw [eL2] at g1
        exact g1
      refine ⟨?_, ?_⟩
      · rw [hs, e]
        unfold bytesT; split <;> rfl
      · unfold getRet
        rw [hs, if_neg (by simp only; omega), g, e]
  obtain ⟨hs0, hret⟩ := hret
  have hn : getS L ((a.length : Int) + (retBytes r).length) 1 = ((ps.length : Int), 0) := by
    have g := get1_mid (a ++ retBytes r) (ps.flatMap bytesT ++ c) (ps.length : Int)
    have eL : a ++ retBytes r ++ [(ps.length : Int)] ++ (ps.flatMap bytesT ++ c) = L := by rw [← hL]; unfold sigBytes; simp
    rw [eL] at g
    have e3 : (((a ++ retBytes r).length : Nat) : Int) = (a.length : Int) + (retBytes r).length := by simp
    rw [e3] at g
    exact g
  have hts : getTs L ps.length ((a.length : Int) + (retBytes r).length + 1) = (ps, (a.length : Int) + (sigBytes ps r).length, 0) := by
    have g := getTs_put ps (a ++ retBytes r ++ [(ps.length : Int)]) c h3 hp
    have eL : a ++ retBytes r ++ [(ps.length : Int)] ++ ps.flatMap bytesT ++ c = L := by rw [← hL]; unfold sigBytes; simp
    rw [eL] at g
    have e3 : (((a ++ retBytes r ++ [(ps.length : Int)]).length : Nat) : Int) = (a.length : Int) + (retBytes r).length + 1 := by simp; omega
    rw [e3] at g
    rw [g]
    simp only [sigBytes, List.length_append, List.length_singleton]
    rw [show (a.length : Int) + ((retBytes r).length : Int) + 1 + ((ps.flatMap bytesT).length : Int) = (a.length : Int) + (((retBytes r).length + 1 + (ps.flatMap bytesT).length : Nat) : Int) from by omega]
  unfold getSigS
  rw [hs0, hret]
  simp only
  rw [if_pos (by simp), if_pos (by simp), hn]
  simp only
  rw [if_pos (by simp), if_neg (by omega), Int.toNat_natCast, hts]
  simp
theorem getSig_put {ps : List Ty} {r : Ty} (hm : maySig ps r = true) (hp : ∀ t ∈ ps, 0 ≤ t.1 ∧ t.1 ≤ 255 ∧ 0 ≤ t.2 ∧ t.2 ≤ 65535) (hr : 0 ≤ r.1 ∧ r.1 ≤ 255 ∧ 0 ≤ r.2 ∧ r.2 ≤ 65535) (a : List Int) :
    getSigS (a ++ sigBytes ps r) a.length = (ps, r, ((a ++ sigBytes ps r).length : Int), 0) ∧ (sigBytes ps r).length ≤ 49 ∧ Bytes (sigBytes ps r) := by
  have h15 : ps.length ≤ 15 := by
    simp only [maySig, Bool.and_eq_true, decide_eq_true_eq] at hm
    exact hm.1.2
  have g := getSig_put_mid hm hp hr a []
  rw [List.append_nil] at g
  have := sig_len ps r
  refine ⟨?_, by omega, sig_bytes (by omega) hp hr⟩
  rw [g]
  simp
end Go.Proofs.YtjbpdmkalegacaaW.Spec
