/- What the functions of the law AidFresh come to, in plain words. -/
import Derived.Test.YtdplpkngacfacaaPAidFreshx2
import Derived.Test.YtdplpkngacfacaaPAidFreshx3
import Derived.Test.YtdplpkngacfacaaPAidFreshx4
import Derived.Test.YtdplpkngacfacaaSpec
import Derived.Test.YtdplpkngacfacaaSpecAid
namespace Go.Proofs.Ytdplpkngacfacaa.EAidFresh
open Go Go.RowKit Go.Proofs.Ytdplpkngacfacaa.PAidFresh Go.Proofs.YtdplpkngacfacaaW.PrintWords Go.Proofs.YtdplpkngacfacaaW.PrintLast Go.Proofs.YtdplpkngacfacaaW.PrintMore Go.Proofs.YtdplpkngacfacaaW.Spec
set_option linter.unusedVariables false
set_option linter.unusedSimpArgs false

theorem Same_l0 (a b : List Int) (hl : a.length = b.length) (hn : a.length ≤ 4611686018427387904) : ∀ (d k i : Nat), i + d = a.length → d < k → garderoberef00_Same.l0 k a b (i : Int) = some (decide (a.drop i = b.drop i)) := by
  intro d
  induction d with
  | zero =>
    intro k i h hk
    obtain ⟨k, rfl⟩ : ∃ m, k = m + 1 := ⟨k - 1, by omega⟩
    simp only [garderoberef00_Same.l0]
    rw [if_neg (by omega), List.drop_eq_nil_of_le (by omega), List.drop_eq_nil_of_le (by omega)]
    simp
  | succ d ih =>
    intro k i h hk
    obtain ⟨k, rfl⟩ : ∃ m, k = m + 1 := ⟨k - 1, by omega⟩
    have h1 : i < a.length := by omega
    have h2 : i < b.length := by omega
    simp only [garderoberef00_Same.l0]
    rw [if_pos (by omega), if_pos (by omega), if_pos (by omega)]
    have hd : (a.drop i = b.drop i) ↔ (a[i] = b[i] ∧ a.drop (i + 1) = b.drop (i + 1)) := by
      rw [List.drop_eq_getElem_cons h1, List.drop_eq_getElem_cons h2, List.cons.injEq]
    have e1 : rd a (i : Int) = a[i] := by simp [rd, h1]
    have e2 : rd b (i : Int) = b[i] := by simp [rd, h2]
    rw [e1, e2]
    by_cases e : a[i] = b[i]
    · rw [if_pos e, wrap_id (by omega) (by omega), show ((i : Int) + 1) = ((i + 1 : Nat) : Int) from by omega, ih k (i + 1) (by omega) (by omega)]
      congr 1
      rw [decide_eq_decide, hd]
      exact ⟨fun h => ⟨e, h⟩, fun h => h.2⟩
    · rw [if_neg e]
      congr 1
      exact (decide_eq_false (fun h => e (hd.1 h).1)).symm
theorem Same_eq (k : Nat) (a b : List Int) (hk : a.length + 2 ≤ k) (hn : a.length ≤ 4611686018427387904) : garderoberef00_Same.f k a b = some (decide (a = b)) := by
  unfold garderoberef00_Same.f
  by_cases h : a.length = b.length
  · rw [if_pos (by omega)]
    have := Same_l0 a b h hn a.length k 0 (by omega) (by omega)
    simpa using this
  · rw [if_neg (by omega)]
    have : a ≠ b := fun e => h (by rw [e])
    simp [this]
theorem Same_refl (k : Nat) (a : List Int) (hk : a.length + 2 ≤ k) (hn : a.length ≤ 4611686018427387904) : garderoberef00_Same.f k a a = some true := by
  rw [Same_eq k a a hk hn]; simp

theorem put_l0_1 (k : Nat) (n : Int) : ends_Put.l0 (k + 5) n [0] 0 = some ([n % 256], 0) := by
  simp [ends_Put.l0, wrap64]
theorem put_l0_2 (k : Nat) (n : Int) : ends_Put.l0 (k + 5) n [0, 0] 1 = some ([n / 256 % 256, n % 256], 0) := by
  simp [ends_Put.l0, wrap64]
theorem put_l0_4 (k : Nat) (n : Int) : ends_Put.l0 (k + 5) n [0, 0, 0, 0] 3 = some ([n / 16777216 % 256, n / 65536 % 256, n / 256 % 256, n % 256], 0) := by
  simp [ends_Put.l0, wrap64, Int.ediv_ediv_of_nonneg]
theorem ends_Put_eq (k : Nat) (hk : 10 ≤ k) (n s : Int) (h : 0 ≤ n) (h' : n ≤ 4294967295) : ends_Put.f k n s = some (putS n s) := by
  obtain ⟨m, rfl⟩ : ∃ m, k = m + 10 := ⟨k - 10, by omega⟩
  unfold ends_Put.f ends_may.f
  have e8 : IntKind.u64.wrap (8 * IntKind.u64.wrap 1) = 8 := by decide
  have e16 : IntKind.u64.wrap (8 * IntKind.u64.wrap 2) = 16 := by decide
  by_cases h1 : s = 1
  · subst h1
    simp only [if_true, Option.bind_some, e8]
    have e : shr .u32 n 8 = n / 256 := by simp [shr, IntKind.bits]
    rw [if_pos (by decide), if_pos (by decide), e]
    by_cases h2 : n ≤ 255
    · have : n / 256 = 0 := by omega
      rw [this]
      simp [ends_Put.j0, h2, be, wrap64, putS, fits]
      rw [show m + 9 = (m + 4) + 5 from rfl, put_l0_1]
    · have : (n / 256 != 0) = true := by simp; omega
      rw [this]
      simp [ends_Put.j0, h2, putS, fits]
  · by_cases h2 : s = 2
    · subst h2
      have e : shr .u32 n 16 = n / 65536 := by simp [shr, IntKind.bits]
      simp [e16, e]
      by_cases h2 : n ≤ 65535
      · have : n / 65536 = 0 := by omega
        rw [this]
        simp [ends_Put.j0, h2, be, wrap64, putS, fits]
        rw [show m + 9 = (m + 4) + 5 from rfl, put_l0_2]
      · have : (n / 65536 != 0) = true := by simp; omega
        rw [this]
        simp [ends_Put.j0, h2, putS, fits]
    · by_cases h4 : s = 4
      · subst h4
        simp [ends_Put.j0, be, wrap64, putS, fits]
        rw [show m + 9 = (m + 4) + 5 from rfl, put_l0_4]
      · simp [h1, h2, h4, ends_Put.j0, putS, fits]

theorem ends_Part_eq (k : Nat) (hk : 5 ≤ k) (l : List Int) (a n : Int) (hl : l.length < 140737488355328) (ha : -9223372036854775808 ≤ a ∧ a ≤ 9223372036854775807) (hn : -9223372036854775808 ≤ n ∧ n ≤ 9223372036854775807) : ends_Part.f k l a n = some (partS l a n) := by
  obtain ⟨m, rfl⟩ : ∃ m, k = m + 1 := ⟨k - 1, by omega⟩
  unfold ends_Part.f partS
  by_cases h1 : a < 0
  · rw [if_pos h1, if_pos (by omega)]; simp [ends_Part.j0]
  · rw [if_neg h1]
    by_cases h2 : a > (l.length : Int)
    · rw [if_pos h2, if_pos (by omega)]; simp [ends_Part.j0]
    · rw [if_neg h2]
      by_cases h3 : n < 0
      · rw [if_pos (by omega)]; simp [ends_Part.j0, h3]
      · rw [if_neg (by omega)]
        simp only [ends_Part.j0]
        rw [if_neg (by simp; omega), wrap_id (n := (l.length : Int) - a) (by omega) (by omega)]
        by_cases h4 : (l.length : Int) - a < n
        · rw [if_pos h4, if_pos h4]
        · have hlen : ((l.take (a + n).toNat).drop a.toNat).length < 140737488355328 := by simp only [List.length_drop, List.length_take]; omega
          have hcut : (l.take (a + n).toNat).drop a.toNat = (l.drop a.toNat).take n.toNat := by rw [List.drop_take]; congr 1; omega
          rw [if_neg h4, if_neg h4, wrap_id (n := a + n) (by omega) (by omega), if_pos (by omega), if_pos (by omega), if_pos (by omega)]
          rw [hcut] at hlen ⊢
          unfold bytes_Clone.f
          simp only [Option.bind_some, List.length_nil, Nat.zero_add, List.nil_append]
          rw [if_pos hlen]
          rfl

theorem get_l0_0 (k : Nat) (e : Int) : ends_Get.l0 (k + 6) e 0 [] 0 0 = some (0, e) := by simp [ends_Get.l0]
theorem get_l0_1 (k : Nat) (e a : Int) (ha : 0 ≤ a ∧ a ≤ 255) : ends_Get.l0 (k + 6) e 0 [a] 1 0 = some (a, e) := by
  have h1 := or_byte (x := 0) (y := a) (by omega) (by omega) ha.1 ha.2
  simp [ends_Get.l0, wrap64, rd] at h1 ⊢
  rw [h1]
theorem get_l0_2 (k : Nat) (e a b : Int) (ha : 0 ≤ a ∧ a ≤ 255) (hb : 0 ≤ b ∧ b ≤ 255) : ends_Get.l0 (k + 6) e 0 [a, b] 2 0 = some (256 * a + b, e) := by
  have h1 := or_byte (x := 0) (y := a) (by omega) (by omega) ha.1 ha.2
  have h2 := or_byte (x := a) (y := b) (by omega) (by omega) hb.1 hb.2
  simp [ends_Get.l0, wrap64, rd] at h1 h2 ⊢
  rw [h1, h2]
theorem get_l0_4 (k : Nat) (e a b c d : Int) (ha : 0 ≤ a ∧ a ≤ 255) (hb : 0 ≤ b ∧ b ≤ 255) (hc : 0 ≤ c ∧ c ≤ 255) (hd : 0 ≤ d ∧ d ≤ 255) : ends_Get.l0 (k + 6) e 0 [a, b, c, d] 4 0 = some (256 * (256 * (256 * a + b) + c) + d, e) := by
  have h1 := or_byte (x := 0) (y := a) (by omega) (by omega) ha.1 ha.2
  have h2 := or_byte (x := a) (y := b) (by omega) (by omega) hb.1 hb.2
  have h3 := or_byte (x := 256 * a + b) (y := c) (by omega) (by omega) hc.1 hc.2
  have h4 := or_byte (x := 256 * (256 * a + b) + c) (y := d) (by omega) (by omega) hd.1 hd.2
  simp [ends_Get.l0, wrap64, rd] at h1 h2 h3 h4 ⊢
  rw [h1, h2, h3, h4]
theorem ends_Get_eq (k : Nat) (hk : 10 ≤ k) (l : List Int) (hb : Bytes l) (a s : Int) (hl : l.length < 140737488355328) (ha : -9223372036854775808 ≤ a ∧ a ≤ 9223372036854775807) (hn : -9223372036854775808 ≤ s ∧ s ≤ 9223372036854775807) : ends_Get.f k l a s = some (getS l a s) := by
  obtain ⟨m, rfl⟩ : ∃ m, k = m + 6 := ⟨k - 6, by omega⟩
  unfold ends_Get.f getS
  have hm : ends_may.f s = some (okSize s) := by
    unfold ends_may.f okSize
    by_cases h1 : s = 1
    · simp [h1]
    · by_cases h2 : s = 2
      · simp [h2]
      · by_cases h4 : s = 4 <;> simp [h1, h2, h4]
  rw [hm]
  simp only [Option.bind_some]
  by_cases ho : okSize s = true
  · rw [if_pos ho, if_pos ho, ends_Part_eq _ (by omega) l a s hl ha hn]
    simp only [Option.bind_some]
    have hp := part_bytes hb a s
    rcases part_cases l a ho with h | ⟨rfl, x, h⟩ | ⟨rfl, x, y, h⟩ | ⟨rfl, x, y, z, u, h⟩
    · rw [h]; exact get_l0_0 _ _
    · rw [h] at hp ⊢; rw [val_one]; exact get_l0_1 _ _ _ (hp x (by simp))
    · rw [h] at hp ⊢; rw [val_two]; exact get_l0_2 _ _ _ _ (hp x (by simp)) (hp y (by simp))
    · rw [h] at hp ⊢; rw [val_four]; exact get_l0_4 _ _ _ _ _ _ (hp x (by simp)) (hp y (by simp)) (hp z (by simp)) (hp u (by simp))
  · rw [if_neg ho, if_neg ho]

theorem ends_PutRow_eq (k : Nat) (hk : 20 ≤ k) (l : List Int) (s : Int) (hl : l.length < 140737488355328) : ends_PutRow.f k l s = some (putRowS l s) := by
  obtain ⟨m, rfl⟩ : ∃ m, k = m + 1 := ⟨k - 1, by omega⟩
  unfold ends_PutRow.f putRowS
  have e1 : IntKind.u64.wrap (8 * IntKind.u64.wrap 1) = 8 := by decide
  have e2 : IntKind.u64.wrap (8 * IntKind.u64.wrap 2) = 16 := by decide
  have s1 : shl .i64 1 8 = 256 := by decide
  have s2 : shl .i64 1 16 = 65536 := by decide
  by_cases h1 : s = 1
  · subst h1
    rw [if_pos rfl, if_neg (by omega)]
    simp only [ends_PutRow.j0]
    rw [if_neg (by decide), e1, if_pos (by decide), s1]
    by_cases h : (l.length : Int) ≥ 256
    · rw [if_pos h, if_pos (by simp; omega)]
    · have hf : fits ((l.length : Int) % 4294967296) 1 = true := by simp [fits]; omega
      rw [if_neg h, if_neg (by omega), ends_Put_eq _ (by omega) _ _ (by omega) (by omega)]
      simp only [Option.bind_some, putS]
      rw [if_pos hf]
      simp only [be_length, if_true]
      rw [if_pos (by omega), show (l.length : Int) % 4294967296 = l.length from by omega]
  · rw [if_neg h1]
    by_cases h2 : s = 2
    · subst h2
      rw [if_neg (by omega)]
      simp only [ends_PutRow.j0]
      rw [if_neg (by decide), e2, if_pos (by decide), s2]
      by_cases h : (l.length : Int) ≥ 65536
      · rw [if_pos h, if_pos (by omega)]
      · have hf : fits ((l.length : Int) % 4294967296) 2 = true := by simp [fits]; omega
        rw [if_neg h, if_neg (by omega), ends_Put_eq _ (by omega) _ _ (by omega) (by omega)]
        simp only [Option.bind_some, putS]
        rw [if_pos hf]
        simp only [be_length]
        rw [if_pos (by simp; omega), show (l.length : Int) % 4294967296 = l.length from by omega]
    · rw [if_pos ⟨h1, h2⟩]
      simp [ends_PutRow.j0, h2]

theorem ends_GetRow_eq (k : Nat) (hk : 20 ≤ k) (l : List Int) (hb : Bytes l) (a s : Int) (hl : l.length < 140737488355328) (ha : -9223372036854775808 ≤ a ∧ a ≤ 9223372036854775807) : ends_GetRow.f k l a s = some (getRowS l a s) := by
  obtain ⟨m, rfl⟩ : ∃ m, k = m + 1 := ⟨k - 1, by omega⟩
  have main : ∀ t : Int, t = 1 ∨ t = 2 → ends_GetRow.j0 (m + 1) l a t false = some (getRowS l a t) := by
    intro t ht
    have h1 := get_range hb a t
    have hok : okSize t = true := by simp [okSize]; omega
    unfold getRowS
    rw [if_neg (by omega)]
    simp only [ends_GetRow.j0]
    rw [if_neg (by decide), ends_Get_eq _ (by omega) l hb a t hl ha (by omega)]
    simp only [Option.bind_some]
    by_cases he : (getS l a t).2 = 0
    · have hp : 0 ≤ a ∧ a + t ≤ l.length := by
        have : (partS l a t).2 = 0 := by unfold getS at he; rw [if_pos hok] at he; exact he
        have := part_length this
        omega
      rw [if_pos he, if_pos he, wrap_id (n := a + t) (by omega) (by omega), wrap_id (n := (getS l a t).1) (by omega) (by omega)]
      rw [ends_Part_eq _ (by omega) l _ _ hl (by omega) (by omega)]
      simp only [Option.bind_some]
      rw [wrap_id (n := a + t + (getS l a t).1) (by omega) (by omega)]
      split <;> rfl
    · rw [if_neg he, if_neg he]
  unfold ends_GetRow.f
  by_cases h1 : s = 1
  · subst h1; rw [if_pos rfl]; exact main 1 (.inl rfl)
  · rw [if_neg h1]
    by_cases h2 : s = 2
    · subst h2; exact main 2 (.inr rfl)
    · unfold getRowS; rw [if_pos ⟨h1, h2⟩]; simp [ends_GetRow.j0, h2]

theorem aid_May_eq (l : List Int) : aid_May.f l = some (mayA l) := by
  unfold aid_May.f mayA
  by_cases h : (l.length : Int) ≥ 5
  · rw [if_pos h]; congr 1; rw [decide_eq_decide]; omega
  · rw [if_neg h]; congr 1; symm; rw [decide_eq_false_iff_not]; omega

theorem aid_Put_eq (k : Nat) (hk : 20 ≤ k) (l : List Int) (hl : l.length < 140737488355328) : aid_Put.f k l = some (aidPutS l) := by
  unfold aid_Put.f aidPutS
  rw [aid_May_eq]
  simp only [Option.bind_some]
  split
  · rw [ends_PutRow_eq k hk l 1 hl]; rfl
  · rfl

theorem aid_Get_eq (k : Nat) (hk : 20 ≤ k) (l : List Int) (hb : Bytes l) (a : Int) (hl : l.length < 140737488355328) (ha : -9223372036854775808 ≤ a ∧ a ≤ 9223372036854775807) : aid_Get.f k l a = some (aidGetS l a) := by
  obtain ⟨m, rfl⟩ : ∃ m, k = m + 1 := ⟨k - 1, by omega⟩
  unfold aid_Get.f aidGetS
  rw [ends_GetRow_eq _ hk l hb a 1 hl ha]
  simp only [Option.bind_some]
  split
  · rename_i h
    rw [aid_May_eq]
    simp only [Option.bind_some, aid_Get.j0]
    cases mayA (getRowS l a 1).1
    · simp
    · simp [h]
  · rename_i h
    simp [aid_Get.j0, h]

theorem Spoil_eq (k : Nat) (l : List Int) (a : Int) : garderoberef00_Spoil.f k l a = some (l.map (fun x => (x + a) % 256)) := rfl

theorem Wide_eq (k : Nat) (l : List Int) (h : l.length ≤ 140737488355328) : garderoberef00_Wide.f k l = some l := by
  unfold garderoberef00_Wide.f
  rw [if_pos h]

theorem Left_eq (k : Nat) (l : List Int) (h : l.length ≤ 140737488355328) : garderoberef00_Left.f k l l = some true := by
  unfold garderoberef00_Left.f
  rw [if_pos ⟨rfl, h⟩]

end Go.Proofs.Ytdplpkngacfacaa.EAidFresh
