/- What the functions of the law TypesFresh come to, in plain words. -/
import Derived.Test.YtlkpgoddljjlbaaPTypesFreshx2
import Derived.Test.YtlkpgoddljjlbaaPTypesFreshx3
import Derived.Test.YtlkpgoddljjlbaaPTypesFreshx4
import Derived.Test.YtlkpgoddljjlbaaPTypesFreshx5
import Derived.Test.YtlkpgoddljjlbaaSpec
import Derived.Test.YtlkpgoddljjlbaaSpecTypes2
import Derived.Test.YtlkpgoddljjlbaaSpecTypes
namespace Go.Proofs.Ytlkpgoddljjlbaa.ETypesFresh
open Go Go.RowKit Go.Proofs.Ytlkpgoddljjlbaa.PTypesFresh Go.Proofs.YtlkpgoddljjlbaaW.PrintWords Go.Proofs.YtlkpgoddljjlbaaW.PrintLast Go.Proofs.YtlkpgoddljjlbaaW.PrintMore Go.Proofs.YtlkpgoddljjlbaaW.Spec
set_option linter.unusedVariables false
set_option linter.unusedSimpArgs false

theorem Same_l0 (a b : List Int) (hl : a.length = b.length) (hn : a.length ≤ 4611686018427387904) : ∀ (d k i : Nat), i + d = a.length → d < k → garderoberef00_Same.l0 k a b (i : Int) = some (decide (a.drop i = b.drop i)) := by
  intro d
  induction d with
  | zero =>
    intro k i h hk
    obtain ⟨k, rfl⟩ : ∃ m, k = m + 1 := ⟨k - 1, by omega⟩
    simp only [garderoberef00_Same.l0]
    rw [if_neg (by omega), List.drop_eq_nil_of_le (by omega), List.drop_eq_nil_of_le (by omega)]
    simp
  | succ d ih =>
    intro k i h hk
    obtain ⟨k, rfl⟩ : ∃ m, k = m + 1 := ⟨k - 1, by omega⟩
    have h1 : i < a.length := by omega
    have h2 : i < b.length := by omega
    simp only [garderoberef00_Same.l0]
    rw [if_pos (by omega), if_pos (by omega), if_pos (by omega)]
    have hd : (a.drop i = b.drop i) ↔ (a[i] = b[i] ∧ a.drop (i + 1) = b.drop (i + 1)) := by
      rw [List.drop_eq_getElem_cons h1, List.drop_eq_getElem_cons h2, List.cons.injEq]
    have e1 : rd a (i : Int) = a[i] := by simp [rd, h1]
    have e2 : rd b (i : Int) = b[i] := by simp [rd, h2]
    rw [e1, e2]
    by_cases e : a[i] = b[i]
    · rw [if_pos e, wrap_id (by omega) (by omega), show ((i : Int) + 1) = ((i + 1 : Nat) : Int) from by omega, ih k (i + 1) (by omega) (by omega)]
      congr 1
      rw [decide_eq_decide, hd]
      exact ⟨fun h => ⟨e, h⟩, fun h => h.2⟩
    · rw [if_neg e]
      congr 1
      exact (decide_eq_false (fun h => e (hd.1 h).1)).symm
theorem Same_eq (k : Nat) (a b : List Int) (hk : a.length + 2 ≤ k) (hn : a.length ≤ 4611686018427387904) : garderoberef00_Same.f k a b = some (decide (a = b)) := by
  unfold garderoberef00_Same.f
  by_cases h : a.length = b.length
  · rw [if_pos (by omega)]
    have := Same_l0 a b h hn a.length k 0 (by omega) (by omega)
    simpa using this
  · rw [if_neg (by omega)]
    have : a ≠ b := fun e => h (by rw [e])
    simp [this]
theorem Same_refl (k : Nat) (a : List Int) (hk : a.length + 2 ≤ k) (hn : a.length ≤ 4611686018427387904) : garderoberef00_Same.f k a a = some true := by
  rw [Same_eq k a a hk hn]; simp

theorem put_l0_1 (k : Nat) (n : Int) : ends_Put.l0 (k + 5) n [0] 0 = some ([n % 256], 0) := by
  simp [ends_Put.l0, wrap64]
theorem put_l0_2 (k : Nat) (n : Int) : ends_Put.l0 (k + 5) n [0, 0] 1 = some ([n / 256 % 256, n % 256], 0) := by
  simp [ends_Put.l0, wrap64]
theorem put_l0_4 (k : Nat) (n : Int) : ends_Put.l0 (k + 5) n [0, 0, 0, 0] 3 = some ([n / 16777216 % 256, n / 65536 % 256, n / 256 % 256, n % 256], 0) := by
  simp [ends_Put.l0, wrap64, Int.ediv_ediv_of_nonneg]
theorem ends_Put_eq (k : Nat) (hk : 10 ≤ k) (n s : Int) (h : 0 ≤ n) (h' : n ≤ 4294967295) : ends_Put.f k n s = some (putS n s) := by
  obtain ⟨m, rfl⟩ : ∃ m, k = m + 10 := ⟨k - 10, by omega⟩
  unfold ends_Put.f ends_may.f
  have e8 : IntKind.u64.wrap (8 * IntKind.u64.wrap 1) = 8 := by decide
  have e16 : IntKind.u64.wrap (8 * IntKind.u64.wrap 2) = 16 := by decide
  by_cases h1 : s = 1
  · subst h1
    simp only [if_true, Option.bind_some, e8]
    have e : shr .u32 n 8 = n / 256 := by simp [shr, IntKind.bits]
    rw [if_pos (by decide), if_pos (by decide), e]
    by_cases h2 : n ≤ 255
    · have : n / 256 = 0 := by omega
      rw [this]
      simp [ends_Put.j0, h2, be, wrap64, putS, fits]
      rw [show m + 9 = (m + 4) + 5 from rfl, put_l0_1]
    · have : (n / 256 != 0) = true := by simp; omega
      rw [this]
      simp [ends_Put.j0, h2, putS, fits]
  · by_cases h2 : s = 2
    · subst h2
      have e : shr .u32 n 16 = n / 65536 := by simp [shr, IntKind.bits]
      simp [e16, e]
      by_cases h2 : n ≤ 65535
      · have : n / 65536 = 0 := by omega
        rw [this]
        simp [ends_Put.j0, h2, be, wrap64, putS, fits]
        rw [show m + 9 = (m + 4) + 5 from rfl, put_l0_2]
      · have : (n / 65536 != 0) = true := by simp; omega
        rw [this]
        simp [ends_Put.j0, h2, putS, fits]
    · by_cases h4 : s = 4
      · subst h4
        simp [ends_Put.j0, be, wrap64, putS, fits]
        rw [show m + 9 = (m + 4) + 5 from rfl, put_l0_4]
      · simp [h1, h2, h4, ends_Put.j0, putS, fits]

theorem ends_Part_eq (k : Nat) (hk : 5 ≤ k) (l : List Int) (a n : Int) (hl : l.length < 140737488355328) (ha : -9223372036854775808 ≤ a ∧ a ≤ 9223372036854775807) (hn : -9223372036854775808 ≤ n ∧ n ≤ 9223372036854775807) : ends_Part.f k l a n = some (partS l a n) := by
  obtain ⟨m, rfl⟩ : ∃ m, k = m + 1 := ⟨k - 1, by omega⟩
  unfold ends_Part.f partS
  by_cases h1 : a < 0
  · rw [if_pos h1, if_pos (by omega)]; simp [ends_Part.j0]
  · rw [if_neg h1]
    by_cases h2 : a > (l.length : Int)
    · rw [if_pos h2, if_pos (by omega)]; simp [ends_Part.j0]
    · rw [if_neg h2]
      by_cases h3 : n < 0
      · rw [if_pos (by omega)]; simp [ends_Part.j0, h3]
      · rw [if_neg (by omega)]
        simp only [ends_Part.j0]
        rw [if_neg (by simp; omega), wrap_id (n := (l.length : Int) - a) (by omega) (by omega)]
        by_cases h4 : (l.length : Int) - a < n
        · rw [if_pos h4, if_pos h4]
        · have hlen : ((l.take (a + n).toNat).drop a.toNat).length < 140737488355328 := by simp only [List.length_drop, List.length_take]; omega
          have hcut : (l.take (a + n).toNat).drop a.toNat = (l.drop a.toNat).take n.toNat := by rw [List.drop_take]; congr 1; omega
          rw [if_neg h4, if_neg h4, wrap_id (n := a + n) (by omega) (by omega), if_pos (by omega), if_pos (by omega), if_pos (by omega)]
          rw [hcut] at hlen ⊢
          unfold bytes_Clone.f
          simp only [Option.bind_some, List.length_nil, Nat.zero_add, List.nil_append]
          rw [if_pos hlen]
          rfl

theorem get_l0_0 (k : Nat) (e : Int) : ends_Get.l0 (k + 6) e 0 [] 0 0 = some (0, e) := by simp [ends_Get.l0]
theorem get_l0_1 (k : Nat) (e a : Int) (ha : 0 ≤ a ∧ a ≤ 255) : ends_Get.l0 (k + 6) e 0 [a] 1 0 = some (a, e) := by
  have h1 := or_byte (x := 0) (y := a) (by omega) (by omega) ha.1 ha.2
  simp [ends_Get.l0, wrap64, rd] at h1 ⊢
  rw [h1]
theorem get_l0_2 (k : Nat) (e a b : Int) (ha : 0 ≤ a ∧ a ≤ 255) (hb : 0 ≤ b ∧ b ≤ 255) : ends_Get.l0 (k + 6) e 0 [a, b] 2 0 = some (256 * a + b, e) := by
  have h1 := or_byte (x := 0) (y := a) (by omega) (by omega) ha.1 ha.2
  have h2 := or_byte (x := a) (y := b) (by omega) (by omega) hb.1 hb.2
  simp [ends_Get.l0, wrap64, rd] at h1 h2 ⊢
  rw [h1, h2]
theorem get_l0_4 (k : Nat) (e a b c d : Int) (ha : 0 ≤ a ∧ a ≤ 255) (hb : 0 ≤ b ∧ b ≤ 255) (hc : 0 ≤ c ∧ c ≤ 255) (hd : 0 ≤ d ∧ d ≤ 255) : ends_Get.l0 (k + 6) e 0 [a, b, c, d] 4 0 = some (256 * (256 * (256 * a + b) + c) + d, e) := by
  have h1 := or_byte (x := 0) (y := a) (by omega) (by omega) ha.1 ha.2
  have h2 := or_byte (x := a) (y := b) (by omega) (by omega) hb.1 hb.2
  have h3 := or_byte (x := 256 * a + b) (y := c) (by omega) (by omega) hc.1 hc.2
  have h4 := or_byte (x := 256 * (256 * a + b) + c) (y := d) (by omega) (by omega) hd.1 hd.2
  simp [ends_Get.l0, wrap64, rd] at h1 h2 h3 h4 ⊢
  rw [h1, h2, h3, h4]
theorem ends_Get_eq (k : Nat) (hk : 10 ≤ k) (l : List Int) (hb : Bytes l) (a s : Int) (hl : l.length < 140737488355328) (ha : -9223372036854775808 ≤ a ∧ a ≤ 9223372036854775807) (hn : -9223372036854775808 ≤ s ∧ s ≤ 9223372036854775807) : ends_Get.f k l a s = some (getS l a s) := by
  obtain ⟨m, rfl⟩ : ∃ m, k = m + 6 := ⟨k - 6, by omega⟩
  unfold ends_Get.f getS
  have hm : ends_may.f s = some (okSize s) := by
    unfold ends_may.f okSize
    by_cases h1 : s = 1
    · simp [h1]
    · by_cases h2 : s = 2
      · simp [h2]
      · by_cases h4 : s = 4 <;> simp [h1, h2, h4]
  rw [hm]
  simp only [Option.bind_some]
  by_cases ho : okSize s = true
  · rw [if_pos ho, if_pos ho, ends_Part_eq _ (by omega) l a s hl ha hn]
    simp only [Option.bind_some]
    have hp := part_bytes hb a s
    rcases part_cases l a ho with h | ⟨rfl, x, h⟩ | ⟨rfl, x, y, h⟩ | ⟨rfl, x, y, z, u, h⟩
    · rw [h]; exact get_l0_0 _ _
    · rw [h] at hp ⊢; rw [val_one]; exact get_l0_1 _ _ _ (hp x (by simp))
    · rw [h] at hp ⊢; rw [val_two]; exact get_l0_2 _ _ _ _ (hp x (by simp)) (hp y (by simp))
    · rw [h] at hp ⊢; rw [val_four]; exact get_l0_4 _ _ _ _ _ _ (hp x (by simp)) (hp y (by simp)) (hp z (by simp)) (hp u (by simp))
  · rw [if_neg ho, if_neg ho]

theorem Spoil_eq (k : Nat) (l : List Int) (a : Int) : garderoberef00_Spoil.f k l a = some (l.map (fun x => (x + a) % 256)) := rfl

theorem Wide_eq (k : Nat) (l : List Int) (h : l.length ≤ 140737488355328) : garderoberef00_Wide.f k l = some l := by
  unfold garderoberef00_Wide.f
  rw [if_pos h]

theorem types_of_eq (k : Nat) (hk : 3 ≤ k) (a : Int) : types_of.f k a = some (ofS a) := by
  obtain ⟨m, rfl⟩ : ∃ m, k = m + 1 := ⟨k - 1, by omega⟩
  unfold types_of.f ofS
  by_cases h1 : a = 1
  · simp [h1, types_of.j0]
  · by_cases h2 : a = 2
    · simp [h2, types_of.j0]
    · by_cases h3 : a = 3
      · simp [h3, types_of.j0]
      · by_cases h5 : a = 5
        · simp [h5, types_of.j0]
        · by_cases h6 : a = 6
          · simp [h6, types_of.j0]
          · by_cases h7 : a = 7
            · simp [h7, types_of.j0]
            · by_cases h4 : a = 4
              · simp [h4, types_of.j0]
              · by_cases h8 : a = 8 <;> simp [*, types_of.j0]

theorem types_May_eq (k : Nat) (hk : 3 ≤ k) (a b : Int) : types_May.f k a b = some (mayT (a, b)) := by
  unfold types_May.f mayT
  rw [types_of_eq k hk]
  simp only [Option.bind_some]
  rcases ofS_range a with h | ⟨h, _⟩ | ⟨h, _⟩ <;> simp [h]

theorem types_Put_eq (k : Nat) (hk : 20 ≤ k) (a b : Int) (hb : 0 ≤ b ∧ b ≤ 65535) : types_Put.f k a b = some (putT (a, b)) := by
  unfold types_Put.f putT
  rw [types_May_eq k (by omega)]
  simp only [Option.bind_some]
  split
  · rw [types_of_eq k (by omega)]
    simp only [Option.bind_some]
    have e : b % 4294967296 = b := by omega
    have hf : fits b 2 = true := by simp [fits]; omega
    by_cases h : ofS a = 2
    · rw [if_pos h, e, ends_Put_eq k (by omega) b 2 (by omega) (by omega)]
      simp [putS, hf, bytesT, h, be]
    · rw [if_neg h]; simp [bytesT, h]
  · rfl

theorem types_Get_eq (k : Nat) (hk : 20 ≤ k) (l : List Int) (hb : Bytes l) (a : Int) (hl : l.length < 140737488355328) (ha : -9223372036854775808 ≤ a ∧ a ≤ 9223372036854775807) : types_Get.f k l a = some ((getT l a).1.1, (getT l a).1.2, (getT l a).2.1, (getT l a).2.2) := by
  have hr := get_range hb a 1
  have hr2 := get_range hb (a + 1) 2
  unfold types_Get.f getT
  rw [ends_Get_eq k (by omega) l hb a 1 hl ha (by omega)]
  simp only [Option.bind_some]
  by_cases h1 : (getS l a 1).2 = 0
  · have p1 := get_place (s := 1) (by decide) h1
    have e : (getS l a 1).1 % 256 = (getS l a 1).1 := by omega
    rw [if_pos h1, if_pos h1, e, types_of_eq k (by omega)]
    simp only [Option.bind_some]
    by_cases h2 : ofS (getS l a 1).1 = 0
    · rw [if_pos h2, if_pos h2]
    · rw [if_neg h2, if_neg h2]
      by_cases h3 : ofS (getS l a 1).1 = 1
      · rw [if_pos h3, if_pos h3, wrap_id (n := a + 1) (by omega) (by omega)]
      · rw [if_neg h3, if_neg h3, wrap_id (n := a + 1) (by omega) (by omega), ends_Get_eq k (by omega) l hb (a + 1) 2 hl (by omega) (by omega)]
        simp only [Option.bind_some]
        by_cases h4 : (getS l (a + 1) 2).2 = 0
        · have e2 : IntKind.u16.wrap (getS l (a + 1) 2).1 = (getS l (a + 1) 2).1 := by
            simp only [IntKind.wrap, IntKind.bits, IntKind.signed]
            simp
            omega
          rw [if_pos h4, if_pos h4, wrap_id (n := a + 3) (by omega) (by omega), e2]
        · rw [if_neg h4, if_neg h4]
  · rw [if_neg h1, if_neg h1]

def ofP (t : Ty) : S25 := ⟨t.1, t.2⟩
def toP (s : S25) : Ty := (s.f0, s.f1)
theorem toP_ofP (t : Ty) : toP (ofP t) = t := rfl
theorem ofP_toP (s : S25) : ofP (toP s) = s := rfl
theorem map_toP_ofP (l : List Ty) : (l.map ofP).map toP = l := by simp [Function.comp_def, toP_ofP]
theorem map_ofP_toP (l : List S25) : (l.map toP).map ofP = l := by simp [Function.comp_def, ofP_toP]

theorem types_GetSig_l0 (l : List Int) (hb : Bytes l) (hl : l.length < 140737488355328) (N : Int) (hN : N ≤ 15) (r0 r1 : Int) : ∀ (n k : Nat) (a i : Int) (acc : List S25), 0 ≤ i → i + n = N → acc.length + n ≤ 100 → 30 + n ≤ k → 0 ≤ a → a ≤ l.length →
    types_GetSig.l0 k l a N i acc r0 r1 = some (if (getTs l n a).2.2 = 0 then (acc ++ (getTs l n a).1.map ofP, r0, r1, (getTs l n a).2.1, 0) else ([], 0, 0, 0, (getTs l n a).2.2))
  | 0, k, a, i, acc, hi, hin, hc, hk, h0, h1 => by
    obtain ⟨k, rfl⟩ : ∃ m, k = m + 1 := ⟨k - 1, by omega⟩
    simp only [types_GetSig.l0]
    rw [if_neg (by  omega)]
    simp [getTs]
  | n + 1, k, a, i, acc, hi, hin, hc, hk, h0, h1 => by
    obtain ⟨k, rfl⟩ : ∃ m, k = m + 1 := ⟨k - 1, by omega⟩
    simp only [types_GetSig.l0]
    rw [if_pos (by  omega), types_Get_eq k (by omega) l hb a hl (by omega)]
    simp only [Option.bind_some]
    by_cases h : (getT l a).2.2 = 0
    · have p := getT_place h
      rw [if_pos h, if_pos (by omega), show (i + 1) % 4294967296 = i + 1 from by omega]
      rw [types_GetSig_l0 l hb hl N hN r0 r1 n k (getT l a).2.1 (i + 1) _ (by omega) (by omega) (by simp only [List.length_append, List.length_singleton]; omega) (by omega) (by omega) (by omega)]
      by_cases h2 : (getTs l n (getT l a).2.1).2.2 = 0
      · have e : getTs l (n + 1) a = ((getT l a).1 :: (getTs l n (getT l a).2.1).1, (getTs l n (getT l a).2.1).2.1, 0) := by simp only [getTs]; rw [if_pos h, if_pos h2]
        rw [e]
        simp [h2, ofP]
      · have e : getTs l (n + 1) a = ([], 0, (getTs l n (getT l a).2.1).2.2) := by simp only [getTs]; rw [if_pos h, if_neg h2]
        rw [e]
        simp [h2]
    · have e : getTs l (n + 1) a = ([], 0, (getT l a).2.2) := by simp only [getTs]; rw [if_neg h]
      rw [if_neg h, e]
      simp [h]
theorem types_GetSig_eq (k : Nat) (hk : 60 ≤ k) (l : List Int) (hb : Bytes l) (a : Int) (hl : l.length < 140737488355328) (ha : -9223372036854775808 ≤ a ∧ a ≤ 9223372036854775807) :
    types_GetSig.f k l a = some ((getSigS l a).1.map ofP, (getSigS l a).2.1.1, (getSigS l a).2.1.2, (getSigS l a).2.2.1, (getSigS l a).2.2.2) := by
  obtain ⟨m, rfl⟩ : ∃ m, k = m + 3 := ⟨k - 3, by omega⟩
  have hr := get_range hb a 1
  unfold types_GetSig.f getSigS
  rw [ends_Get_eq _ (by omega) l hb a 1 hl ha (by omega)]
  simp only [Option.bind_some]
  by_cases h1 : (getS l a 1).2 = 0
  · have p1 := get_place (s := 1) (by decide) h1
    have e : (getS l a 1).1 % 256 = (getS l a 1).1 := by omega
    rw [if_pos h1, if_pos h1, e, h1]
    have tail : ∀ (q : Nat) (b : Int) (t : Ty), q = m + 2 ∨ q = m + 1 → 0 ≤ b → b ≤ l.length → types_GetSig.j1 (q + 1) l b 0 t.1 t.2 = some (
        if (getS l b 1).2 = 0 then (if (getS l b 1).1 > 15 then ([], 0, 0, 0, 5) else
          if (getTs l (getS l b 1).1.toNat (b + 1)).2.2 = 0 then ((getTs l (getS l b 1).1.toNat (b + 1)).1.map ofP, t.1, t.2, (getTs l (getS l b 1).1.toNat (b + 1)).2.1, 0) else ([], 0, 0, 0, (getTs l (getS l b 1).1.toNat (b + 1)).2.2)) else ([], 0, 0, 0, (getS l b 1).2)) := by
      intro q b t hq hb0 hb1
      simp only [types_GetSig.j1]
      rw [if_pos (by simp), ends_Get_eq _ (by omega) l hb b 1 hl (by omega) (by omega)]
      simp only [Option.bind_some]
      have hr2 := get_range hb b 1
      by_cases h2 : (getS l b 1).2 = 0
      · have p2 := get_place (s := 1) (by decide) h2
        rw [if_pos h2, if_pos h2]
        by_cases h3 : (getS l b 1).1 > 15
        · rw [if_pos h3, if_pos h3]
        · rw [if_neg h3, if_neg h3, wrap_id (n := b + 1) (by omega) (by omega), types_GetSig_l0 l hb hl (getS l b 1).1 (by omega) t.1 t.2 (getS l b 1).1.toNat q (b + 1) 0 [] (by omega) (by omega) (by simp; omega) (by omega) (by omega) (by omega)]
          simp
      · rw [if_neg h2, if_neg h2]
    by_cases h2 : (getS l a 1).1 = 0
    · have eb : ((getS l a 1).1 != 0) = false := by simp [h2]
      have er : getRet l a = ((0, 0), a + 1, 0) := by unfold getRet; rw [if_pos h2]
      rw [eb, er]
      simp only [types_GetSig.j0]
      rw [if_neg (by decide), wrap_id (n := a + 1) (by omega) (by omega)]
      have := tail (m + 1) (a + 1) (0, 0) (.inr rfl) (by omega) (by omega)
      simp only at this
      rw [show m + 2 = (m + 1) + 1 from rfl, this]
      simp only [if_true]
      congr 1
      split
      · split
        · rfl
        · split <;> rfl
      · rfl
    · have eb : ((getS l a 1).1 != 0) = true := by simp [h2]
      have er : getRet l a = getT l a := by unfold getRet; rw [if_neg h2]
      rw [eb, er]
      simp only [types_GetSig.j0]
      rw [if_pos (by simp), types_Get_eq _ (by omega) l hb a hl ha]
      simp only [Option.bind_some]
      by_cases h3 : (getT l a).2.2 = 0
      · have p := getT_place h3
        rw [h3]
        rw [show m + 2 = (m + 1) + 1 from rfl, tail (m + 1) (getT l a).2.1 (getT l a).1 (.inr rfl) (by omega) (by omega)]
        simp only [if_true]
        congr 1
        split
        · split
          · rfl
          · split <;> rfl
        · rfl
      · rw [if_neg h3]
        simp only [types_GetSig.j1]
        rw [if_neg h3]
        rfl
  · rw [if_neg h1, if_neg h1]
    simp [types_GetSig.j0, types_GetSig.j1, h1]

theorem Types_l0 (a b : List S25) (hl : a.length = b.length) (hn : a.length ≤ 4611686018427387904) : ∀ (d k i : Nat), i + d = a.length → d < k → garderoberef00_Types.l0 k a b (i : Int) = some (decide ((a.drop i).map toP = (b.drop i).map toP)) := by
  intro d
  induction d with
  | zero =>
    intro k i h hk
    obtain ⟨k, rfl⟩ : ∃ m, k = m + 1 := ⟨k - 1, by omega⟩
    simp only [garderoberef00_Types.l0]
    rw [if_neg (by omega), List.drop_eq_nil_of_le (by omega), List.drop_eq_nil_of_le (by omega)]
    simp
  | succ d ih =>
    intro k i h hk
    obtain ⟨k, rfl⟩ : ∃ m, k = m + 1 := ⟨k - 1, by omega⟩
    have h1 : i < a.length := by omega
    have h2 : i < b.length := by omega
    simp only [garderoberef00_Types.l0]
    rw [if_pos (by omega), if_pos (by omega), if_pos (by omega)]
    have hd : ((a.drop i).map toP = (b.drop i).map toP) ↔ (toP a[i] = toP b[i] ∧ (a.drop (i + 1)).map toP = (b.drop (i + 1)).map toP) := by
      rw [List.drop_eq_getElem_cons h1, List.drop_eq_getElem_cons h2, List.map_cons, List.map_cons, List.cons.injEq]
    have e1 : rd_T25 a (i : Int) = a[i] := by simp [rd_T25, h1]
    have e2 : rd_T25 b (i : Int) = b[i] := by simp [rd_T25, h2]
    rw [e1, e2]
    by_cases e : toP a[i] = toP b[i]
    · have e' := e
      simp only [toP, Prod.mk.injEq] at e'
      rw [if_neg (by simp [e'.1, e'.2]), wrap_id (by omega) (by omega), show ((i : Int) + 1) = ((i + 1 : Nat) : Int) from by omega, ih k (i + 1) (by omega) (by omega)]
      congr 1
      rw [decide_eq_decide, hd]
      exact ⟨fun h => ⟨e, h⟩, fun h => h.2⟩
    · have e' : (!(a[i].f0 == b[i].f0) || !(a[i].f1 == b[i].f1)) = true := by
        simp only [toP, Prod.mk.injEq] at e
        simp only [Bool.or_eq_true, Bool.not_eq_true', beq_eq_false_iff_ne]
        omega
      rw [if_pos e']
      congr 1
      exact (decide_eq_false (fun h => e (hd.1 h).1)).symm
theorem Types_eq (k : Nat) (a b : List S25) (hk : a.length + 2 ≤ k) (hn : a.length ≤ 4611686018427387904) : garderoberef00_Types.f k a b = some (decide (a.map toP = b.map toP)) := by
  unfold garderoberef00_Types.f
  by_cases h : a.length = b.length
  · rw [if_pos (by omega)]
    have := Types_l0 a b h hn a.length k 0 (by omega) (by omega)
    simpa using this
  · rw [if_neg (by omega)]
    have : a.map toP ≠ b.map toP := fun e => h (by have := congrArg List.length e; simpa using this)
    simp [this]
theorem Types_refl (k : Nat) (a : List S25) (hk : a.length + 2 ≤ k) (hn : a.length ≤ 4611686018427387904) : garderoberef00_Types.f k a a = some true := by
  rw [Types_eq k a a hk hn]; simp

theorem types_PutSig_l0 (ps : List S25) (hb : ∀ s ∈ ps, 0 ≤ s.f1 ∧ s.f1 ≤ 65535) (hps : ps.length ≤ 15) : ∀ (d k i : Nat) (acc : List Int), i + d = ps.length → 30 + d ≤ k → acc.length + 3 * d ≤ 100 →
    types_PutSig.l0 k acc ps (ps.length : Int) (i : Int) = some (if ((ps.drop i).map toP).all mayT = true then (acc ++ ((ps.drop i).map toP).flatMap bytesT, 0) else ([], 2))
  | 0, k, i, acc, h, hk, ha => by
    obtain ⟨k, rfl⟩ : ∃ m, k = m + 1 := ⟨k - 1, by omega⟩
    simp only [types_PutSig.l0]
    rw [if_neg (by omega), List.drop_eq_nil_of_le (by omega)]
    simp
  | d + 1, k, i, acc, h, hk, ha => by
    obtain ⟨k, rfl⟩ : ∃ m, k = m + 1 := ⟨k - 1, by omega⟩
    have h1 : i < ps.length := by omega
    have e1 : rd_T25 ps (i : Int) = ps[i] := by simp [rd_T25, h1]
    have hbi := hb ps[i] (List.getElem_mem h1)
    simp only [types_PutSig.l0]
    rw [if_pos (by omega), if_pos (by omega), if_pos (by omega), e1, types_Put_eq k (by omega) _ _ hbi]
    simp only [Option.bind_some]
    have hd : (ps.drop i).map toP = (ps[i].f0, ps[i].f1) :: (ps.drop (i + 1)).map toP := by rw [List.drop_eq_getElem_cons h1]; rfl
    rw [hd, List.all_cons, List.flatMap_cons]
    have hlen : (bytesT (ps[i].f0, ps[i].f1)).length ≤ 3 := by unfold bytesT; split <;> simp
    cases hm : mayT (ps[i].f0, ps[i].f1) with
    | true =>
      simp only [putT, hm, if_true]
      rw [if_pos (by omega), wrap_id (by omega) (by omega), show ((i : Int) + 1) = ((i + 1 : Nat) : Int) from by omega, types_PutSig_l0 ps hb hps d k (i + 1) _ (by omega) (by omega) (by simp only [List.length_append]; omega)]
      simp only [Bool.true_and, List.append_assoc]
    | false => simp [putT, hm]
theorem types_PutSig_eq (k : Nat) (hk : 60 ≤ k) (ps : List S25) (hb : ∀ s ∈ ps, 0 ≤ s.f1 ∧ s.f1 ≤ 65535) (r0 r1 : Int) (hr : 0 ≤ r1 ∧ r1 ≤ 65535) : types_PutSig.f k ps r0 r1 = some (putSigS (ps.map toP) (r0, r1)) := by
  obtain ⟨m, rfl⟩ : ∃ m, k = m + 1 := ⟨k - 1, by omega⟩
  have tail : ∀ ret : List Int, ret.length ≤ 3 → types_PutSig.j0 (m + 1) ret ps r0 r1 = some (if (decide (ps.length ≤ 15) && (ps.map toP).all mayT) = true then (ret ++ [(ps.length : Int)] ++ (ps.map toP).flatMap bytesT, 0) else ([], 2)) := by
    intro ret hret
    simp only [types_PutSig.j0]
    by_cases h : (ps.length : Int) > 15
    · rw [if_pos h, show decide (ps.length ≤ 15) = false from decide_eq_false (by omega)]
      simp
    · have := types_PutSig_l0 ps hb (by omega) ps.length m 0 (ret ++ [((ps.length : Int)) % 256]) (by omega) (by omega) (by simp only [List.length_append, List.length_singleton]; omega)
      rw [if_neg h, if_pos (by omega), show decide (ps.length ≤ 15) = true from decide_eq_true (by omega)]
      simp only [List.drop_zero, Int.natCast_zero] at this
      rw [this, show (ps.length : Int) % 256 = ps.length from by omega]
      simp
  unfold types_PutSig.f putSigS maySig sigBytes retBytes
  by_cases h0 : (r0, r1) = ((0, 0) : Ty)
  · obtain ⟨rfl, rfl⟩ := Prod.mk.inj h0
    rw [if_neg (by simp), tail [0] (by simp)]
    simp
  · have hne : (!(r0 == 0) || !(r1 == 0)) = true := by
      simp only [Prod.mk.injEq] at h0
      simp only [Bool.or_eq_true, Bool.not_eq_true', beq_eq_false_iff_ne]
      omega
    have hbe : ((r0, r1) == ((0, 0) : Ty)) = false := by simpa using h0
    rw [if_pos hne, types_Put_eq _ (by omega) r0 r1 hr, hbe]
    simp only [Option.bind_some]
    cases hm : mayT (r0, r1) with
    | true =>
      have hlen : (bytesT (r0, r1)).length ≤ 3 := by unfold bytesT; split <;> simp
      simp only [putT, hm, if_true]
      rw [tail _ hlen, if_neg h0]
      simp
    | false => simp [putT, hm]

end Go.Proofs.Ytlkpgoddljjlbaa.ETypesFresh
