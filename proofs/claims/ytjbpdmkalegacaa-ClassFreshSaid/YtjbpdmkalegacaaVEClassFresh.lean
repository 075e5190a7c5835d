/- What the functions of the law ClassFresh come to, in plain words. -/
import Derived.Test.YtjbpdmkalegacaaVPClassFreshx10
import Derived.Test.YtjbpdmkalegacaaVPClassFreshx11
import Derived.Test.YtjbpdmkalegacaaVPClassFreshx12
import Derived.Test.YtjbpdmkalegacaaVPClassFreshx2
import Derived.Test.YtjbpdmkalegacaaVPClassFreshx3
import Derived.Test.YtjbpdmkalegacaaVPClassFreshx4
import Derived.Test.YtjbpdmkalegacaaVPClassFreshx5
import Derived.Test.YtjbpdmkalegacaaVPClassFreshx6
import Derived.Test.YtjbpdmkalegacaaVPClassFreshx7
import Derived.Test.YtjbpdmkalegacaaVPClassFreshx8
import Derived.Test.YtjbpdmkalegacaaVPClassFreshx9
import Derived.Test.YtjbpdmkalegacaaVSpec
import Derived.Test.YtjbpdmkalegacaaVSpecTypes2
import Derived.Test.YtjbpdmkalegacaaVSpecTypes
namespace Go.Proofs.Ytjbpdmkalegacaa.EClassFresh
open Go Go.RowKit Go.Proofs.Ytjbpdmkalegacaa.PClassFresh Go.Proofs.YtjbpdmkalegacaaW.PrintWords Go.Proofs.YtjbpdmkalegacaaW.PrintLast Go.Proofs.YtjbpdmkalegacaaW.PrintMore Go.Proofs.YtjbpdmkalegacaaW.Spec
set_option linter.unusedVariables false
set_option linter.unusedSimpArgs false
theorem put_l0_1 (k : Nat) (n : Int) : ends_Put.l0 (k + 5) n [0] 0 = some ([n % 256], 0) := by
  simp [ends_Put.l0, wrap64]
theorem put_l0_2 (k : Nat) (n : Int) : ends_Put.l0 (k + 5) n [0, 0] 1 = some ([n / 256 % 256, n % 256], 0) := by
  simp [ends_Put.l0, wrap64]
theorem put_l0_4 (k : Nat) (n : Int) : ends_Put.l0 (k + 5) n [0, 0, 0, 0] 3 = some ([n / 16777216 % 256, n / 65536 % 256, n / 256 % 256, n % 256], 0) := by
  simp [ends_Put.l0, wrap64, Int.ediv_ediv_of_nonneg]
theorem ends_Put_eq (k : Nat) (hk : 10 ≤ k) (n s : Int) (h : 0 ≤ n) (h' : n ≤ 4294967295) : ends_Put.f k n s = some (putS n s) := by
  obtain ⟨m, rfl⟩ : ∃ m, k = m + 10 := ⟨k - 10, by omega⟩
  unfold ends_Put.f ends_may.f
  have e8 : IntKind.u64.wrap (8 * IntKind.u64.wrap 1) = 8 := by decide
  have e16 : IntKind.u64.wrap (8 * IntKind.u64.wrap 2) = 16 := by decide
  by_cases h1 : s = 1
  · subst h1
    simp only [if_true, Option.bind_some, e8]
    have e : shr .u32 n 8 = n / 256 := by simp [shr, IntKind.bits]
    rw [if_pos (by decide), if_pos (by decide), e]
    by_cases h2 : n ≤ 255
    · have : n / 256 = 0 := by omega
      rw [this]
      simp [ends_Put.j0, h2, be, wrap64, putS, fits]
      rw [show m + 9 = (m + 4) + 5 from rfl, put_l0_1]
    · have : (n / 256 != 0) = true := by simp; omega
      rw [this]
      simp [ends_Put.j0, h2, putS, fits]
  · by_cases h2 : s = 2
    · subst h2
      have e : shr .u32 n 16 = n / 65536 := by simp [shr, IntKind.bits]
      simp [e16, e]
      by_cases h2 : n ≤ 65535
      · have : n / 65536 = 0 := by omega
        rw [this]
        simp [ends_Put.j0, h2, be, wrap64, putS, fits]
        rw [show m + 9 = (m + 4) + 5 from rfl, put_l0_2]
      · have : (n / 65536 != 0) = true := by simp; omega
        rw [this]
        simp [ends_Put.j0, h2, putS, fits]
    · by_cases h4 : s = 4
      · subst h4
        simp [ends_Put.j0, be, wrap64, putS, fits]
        rw [show m + 9 = (m + 4) + 5 from rfl, put_l0_4]
      · simp [h1, h2, h4, ends_Put.j0, putS, fits]
theorem rput_l0_1 (k : Nat) (n : Int) (h : 0 ≤ n) (h' : n ≤ 4294967295) : garderoberef02_Put.l0 (k + 5) n [0] 0 = some (if n ≤ 255 then ([n % 256], 0) else ([], 2)) := by
  have e1 : n.tdiv 256 % 4294967296 = n / 256 := by rw [Int.tdiv_eq_ediv_of_nonneg h]; omega
  have e2 : n.tmod 256 % 256 = n % 256 := by rw [Int.tmod_eq_emod_of_nonneg h]; omega
  simp [garderoberef02_Put.l0, wrap64, e1, e2]
  split <;> split <;> first | rfl | omega
theorem rput_l0_2 (k : Nat) (n : Int) (h : 0 ≤ n) (h' : n ≤ 4294967295) : garderoberef02_Put.l0 (k + 5) n [0, 0] 1 = some (if n ≤ 65535 then ([n / 256 % 256, n % 256], 0) else ([], 2)) := by
  have e1 : n.tdiv 256 % 4294967296 = n / 256 := by rw [Int.tdiv_eq_ediv_of_nonneg h]; omega
  have e2 : n.tmod 256 % 256 = n % 256 := by rw [Int.tmod_eq_emod_of_nonneg h]; omega
  have e3 : (n / 256).tdiv 256 % 4294967296 = n / 65536 := by rw [Int.tdiv_eq_ediv_of_nonneg (by omega)]; omega
  have e4 : (n / 256).tmod 256 % 256 = n / 256 % 256 := by rw [Int.tmod_eq_emod_of_nonneg (by omega)]; omega
  simp [garderoberef02_Put.l0, wrap64, e1, e2, e3, e4]
  split <;> split <;> first | rfl | omega
theorem rput_l0_4 (k : Nat) (n : Int) (h : 0 ≤ n) (h' : n ≤ 4294967295) : garderoberef02_Put.l0 (k + 5) n [0, 0, 0, 0] 3 = some ([n / 16777216 % 256, n / 65536 % 256, n / 256 % 256, n % 256], 0) := by
  have e1 : n.tdiv 256 % 4294967296 = n / 256 := by rw [Int.tdiv_eq_ediv_of_nonneg h]; omega
  have e2 : n.tmod 256 % 256 = n % 256 := by rw [Int.tmod_eq_emod_of_nonneg h]; omega
  have e3 : (n / 256).tdiv 256 % 4294967296 = n / 65536 := by rw [Int.tdiv_eq_ediv_of_nonneg (by omega)]; omega
  have e4 : (n / 256).tmod 256 % 256 = n / 256 % 256 := by rw [Int.tmod_eq_emod_of_nonneg (by omega)]; omega
  have e5 : (n / 65536).tdiv 256 % 4294967296 = n / 16777216 := by rw [Int.tdiv_eq_ediv_of_nonneg (by omega)]; omega
  have e6 : (n / 65536).tmod 256 % 256 = n / 65536 % 256 := by rw [Int.tmod_eq_emod_of_nonneg (by omega)]; omega
  have e7 : (n / 16777216).tdiv 256 % 4294967296 = 0 := by rw [Int.tdiv_eq_ediv_of_nonneg (by omega)]; omega
  have e8 : (n / 16777216).tmod 256 % 256 = n / 16777216 % 256 := by rw [Int.tmod_eq_emod_of_nonneg (by omega)]; omega
  simp [garderoberef02_Put.l0, wrap64, e1, e2, e3, e4, e5, e6, e7, e8]
theorem ref_Put_eq (k : Nat) (hk : 10 ≤ k) (n s : Int) (h : 0 ≤ n) (h' : n ≤ 4294967295) : garderoberef02_Put.f k n s = some (putS n s) := by
  obtain ⟨m, rfl⟩ : ∃ m, k = m + 10 := ⟨k - 10, by omega⟩
  unfold garderoberef02_Put.f garderoberef02_Size.f
  by_cases h1 : s = 1
  · subst h1
    simp [wrap64]
    rw [show m + 10 = (m + 5) + 5 from rfl, rput_l0_1 _ _ h h']
    by_cases h2 : n ≤ 255 <;> simp [h2, putS, fits, be]
  · by_cases h2 : s = 2
    · subst h2
      simp [wrap64]
      rw [show m + 10 = (m + 5) + 5 from rfl, rput_l0_2 _ _ h h']
      by_cases h2 : n ≤ 65535 <;> simp [h2, putS, fits, be]
    · by_cases h4 : s = 4
      · subst h4
        simp [wrap64]
        rw [show m + 10 = (m + 5) + 5 from rfl, rput_l0_4 _ _ h h']
        simp [putS, fits, be]
      · simp [h1, h2, h4, putS, fits]
theorem ends_Part_eq (k : Nat) (hk : 5 ≤ k) (l : List Int) (a n : Int) (hl : l.length < 140737488355328) (ha : -9223372036854775808 ≤ a ∧ a ≤ 9223372036854775807) (hn : -9223372036854775808 ≤ n ∧ n ≤ 9223372036854775807) : ends_Part.f k l a n = some (partS l a n) := by
  obtain ⟨m, rfl⟩ : ∃ m, k = m + 1 := ⟨k - 1, by omega⟩
  unfold ends_Part.f partS
  by_cases h1 : a < 0
  · rw [if_pos h1, if_pos (by omega)]; simp [ends_Part.j0]
  · rw [if_neg h1]
    by_cases h2 : a > (l.length : Int)
    · rw [if_pos h2, if_pos (by omega)]; simp [ends_Part.j0]
    · rw [if_neg h2]
      by_cases h3 : n < 0
      · rw [if_pos (by omega)]; simp [ends_Part.j0, h3]
      · rw [if_neg (by omega)]
        simp only [ends_Part.j0]
        rw [if_neg (by simp; omega), wrap_id (n := (l.length : Int) - a) (by omega) (by omega)]
        by_cases h4 : (l.length : Int) - a < n
        · rw [if_pos h4, if_pos h4]
        · have hlen : ((l.take (a + n).toNat).drop a.toNat).length < 140737488355328 := by simp only [List.length_drop, List.length_take]; omega
          have hcut : (l.take (a + n).toNat).drop a.toNat = (l.drop a.toNat).take n.toNat := by rw [List.drop_take]; congr 1; omega
          rw [if_neg h4, if_neg h4, wrap_id (n := a + n) (by omega) (by omega), if_pos (by omega), if_pos (by omega), if_pos (by omega)]
          rw [hcut] at hlen ⊢
          unfold bytes_Clone.f
          simp only [Option.bind_some, List.length_nil, Nat.zero_add, List.nil_append]
          rw [if_pos hlen]
          rfl
theorem ref_Part_eq (k : Nat) (hk : 5 ≤ k) (l : List Int) (a n : Int) (hl : l.length < 140737488355328) (ha : -9223372036854775808 ≤ a ∧ a ≤ 9223372036854775807) (hn : -9223372036854775808 ≤ n ∧ n ≤ 9223372036854775807) : garderoberef02_Part.f k l a n = some (partS l a n) := by
  obtain ⟨m, rfl⟩ : ∃ m, k = m + 1 := ⟨k - 1, by omega⟩
  unfold garderoberef02_Part.f partS
  by_cases h1 : a < 0
  · rw [if_pos h1, if_pos (by omega)]; simp [garderoberef02_Part.j0]
  · rw [if_neg h1]
    by_cases h2 : a > (l.length : Int)
    · rw [if_pos h2, if_pos (by omega)]; simp [garderoberef02_Part.j0]
    · rw [if_neg h2]
      by_cases h3 : n < 0
      · rw [if_pos (by omega)]; simp [garderoberef02_Part.j0, h3]
      · rw [if_neg (by omega)]
        simp only [garderoberef02_Part.j0]
        rw [if_neg (by simp; omega), wrap_id (n := (l.length : Int) - a) (by omega) (by omega)]
        by_cases h4 : (l.length : Int) - a < n
        · rw [if_pos h4, if_pos h4]
        · have hlen : ((l.take (a + n).toNat).drop a.toNat).length < 140737488355328 := by simp only [List.length_drop, List.length_take]; omega
          have hcut : (l.take (a + n).toNat).drop a.toNat = (l.drop a.toNat).take n.toNat := by rw [List.drop_take]; congr 1; omega
          rw [if_neg h4, if_neg h4, wrap_id (n := a + n) (by omega) (by omega), if_pos (by omega), if_pos (by omega), if_pos (by omega)]
          rw [hcut] at hlen ⊢
          simp only [List.length_nil, Nat.zero_add, List.nil_append]
          rw [if_pos hlen]
theorem get_l0_0 (k : Nat) (e : Int) : ends_Get.l0 (k + 6) e 0 [] 0 0 = some (0, e) := by simp [ends_Get.l0]
theorem get_l0_1 (k : Nat) (e a : Int) (ha : 0 ≤ a ∧ a ≤ 255) : ends_Get.l0 (k + 6) e 0 [a] 1 0 = some (a, e) := by
  have h1 := or_byte (x := 0) (y := a) (by omega) (by omega) ha.1 ha.2
  simp [ends_Get.l0, wrap64, rd] at h1 ⊢
  rw [h1]
theorem get_l0_2 (k : Nat) (e a b : Int) (ha : 0 ≤ a ∧ a ≤ 255) (hb : 0 ≤ b ∧ b ≤ 255) : ends_Get.l0 (k + 6) e 0 [a, b] 2 0 = some (256 * a + b, e) := by
  have h1 := or_byte (x := 0) (y := a) (by omega) (by omega) ha.1 ha.2
  have h2 := or_byte (x := a) (y := b) (by omega) (by omega) hb.1 hb.2
  simp [ends_Get.l0, wrap64, rd] at h1 h2 ⊢
  rw [h1, h2]
theorem get_l0_4 (k : Nat) (e a b c d : Int) (ha : 0 ≤ a ∧ a ≤ 255) (hb : 0 ≤ b ∧ b ≤ 255) (hc : 0 ≤ c ∧ c ≤ 255) (hd : 0 ≤ d ∧ d ≤ 255) : ends_Get.l0 (k + 6) e 0 [a, b, c, d] 4 0 = some (256 * (256 * (256 * a + b) + c) + d, e) := by
  have h1 := or_byte (x := 0) (y := a) (by omega) (by omega) ha.1 ha.2
  have h2 := or_byte (x := a) (y := b) (by omega) (by omega) hb.1 hb.2
  have h3 := or_byte (x := 256 * a + b) (y := c) (by omega) (by omega) hc.1 hc.2
  have h4 := or_byte (x := 256 * (256 * a + b) + c) (y := d) (by omega) (by omega) hd.1 hd.2
  simp [ends_Get.l0, wrap64, rd] at h1 h2 h3 h4 ⊢
  rw [h1, h2, h3, h4]
theorem ends_Get_eq (k : Nat) (hk : 10 ≤ k) (l : List Int) (hb : Bytes l) (a s : Int) (hl : l.length < 140737488355328) (ha : -9223372036854775808 ≤ a ∧ a ≤ 9223372036854775807) (hn : -9223372036854775808 ≤ s ∧ s ≤ 9223372036854775807) : ends_Get.f k l a s = some (getS l a s) := by
  obtain ⟨m, rfl⟩ : ∃ m, k = m + 6 := ⟨k - 6, by omega⟩
  unfold ends_Get.f getS
  have hm : ends_may.f s = some (okSize s) := by
    unfold ends_may.f okSize
    by_cases h1 : s = 1
    · simp [h1]
    · by_cases h2 : s = 2
      · simp [h2]
      · by_cases h4 : s = 4 <;> simp [h1, h2, h4]
  rw [hm]
  simp only [Option.bind_some]
  by_cases ho : okSize s = true
  · rw [if_pos ho, if_pos ho, ends_Part_eq _ (by omega) l a s hl ha hn]
    simp only [Option.bind_some]
    have hp := part_bytes hb a s
    rcases part_cases l a ho with h | ⟨rfl, x, h⟩ | ⟨rfl, x, y, h⟩ | ⟨rfl, x, y, z, u, h⟩
    · rw [h]; exact get_l0_0 _ _
    · rw [h] at hp ⊢; rw [val_one]; exact get_l0_1 _ _ _ (hp x (by simp))
    · rw [h] at hp ⊢; rw [val_two]; exact get_l0_2 _ _ _ _ (hp x (by simp)) (hp y (by simp))
    · rw [h] at hp ⊢; rw [val_four]; exact get_l0_4 _ _ _ _ _ _ (hp x (by simp)) (hp y (by simp)) (hp z (by simp)) (hp u (by simp))
  · rw [if_neg ho, if_neg ho]
theorem rget_l0 (l : List Int) (hb : Bytes l) (hl : l.length < 140737488355328) (a : Nat) (s : Int) (k : Nat) (n i : Int) (hi : 0 ≤ i) (hlt : i < s) (hs : (a : Int) + s ≤ l.length) (hn : 0 ≤ n) (hn' : n ≤ 16777215) :
    garderoberef02_Get.l0 (k + 1) l a s n i = garderoberef02_Get.l0 k l a s (256 * n + rd l (a + i)) (i + 1) ∧ 0 ≤ rd l (a + i) ∧ rd l (a + i) ≤ 255 := by
  have hr : 0 ≤ rd l (a + i) ∧ rd l (a + i) ≤ 255 := by
    have hlt2 : ((a : Int) + i).toNat < l.length := by omega
    unfold rd
    rw [List.getD_eq_getElem?_getD, List.getElem?_eq_getElem hlt2]
    exact hb _ (List.getElem_mem hlt2)
  refine ⟨?_, hr⟩
  simp only [garderoberef02_Get.l0]
  rw [if_pos hlt, wrap_id (n := (a : Int) + i) (by omega) (by omega), if_pos (by omega), if_pos (by omega), wrap_id (n := i + 1) (by omega) (by omega)]
  congr 1
  omega
theorem ref_Get_eq (k : Nat) (hk : 10 ≤ k) (l : List Int) (hb : Bytes l) (a s : Int) (hl : l.length < 140737488355328) (ha : -9223372036854775808 ≤ a ∧ a ≤ 9223372036854775807) (hn : -9223372036854775808 ≤ s ∧ s ≤ 9223372036854775807) : garderoberef02_Get.f k l a s = some (getS l a s) := by
  obtain ⟨m, rfl⟩ : ∃ m, k = m + 6 := ⟨k - 6, by omega⟩
  unfold garderoberef02_Get.f getS
  have hm : garderoberef02_Size.f s = some (okSize s) := by
    unfold garderoberef02_Size.f okSize
    by_cases h1 : s = 1
    · simp [h1]
    · by_cases h2 : s = 2
      · simp [h2]
      · by_cases h4 : s = 4 <;> simp [h1, h2, h4]
  rw [hm]
  simp only [Option.bind_some]
  by_cases ho : okSize s = true
  · rw [if_pos ho, if_pos ho]
    have hs4 : 1 ≤ s ∧ s ≤ 4 := by simp [okSize] at ho; omega
    by_cases h1 : a < 0
    · rw [if_pos h1]
      have e : partS l a s = ([], 2) := by unfold partS; rw [if_pos (by omega)]
      simp [garderoberef02_Get.j0, e, val]
    · rw [if_neg h1]
      by_cases h2 : a > (l.length : Int)
      · have e : partS l a s = ([], 2) := by unfold partS; rw [if_pos (by omega)]
        simp [garderoberef02_Get.j0, e, val, h2]
      · simp only [garderoberef02_Get.j0]
        rw [if_neg (by simp; omega), wrap_id (n := (l.length : Int) - a) (by omega) (by omega)]
        by_cases h4 : (l.length : Int) - a < s
        · have e : partS l a s = ([], 4) := by unfold partS; rw [if_neg (by omega), if_pos h4]
          rw [if_pos h4, e]; rfl
        · rw [if_neg h4]
          obtain ⟨b, rfl⟩ := Int.eq_ofNat_of_zero_le (by omega : 0 ≤ a)
          have e : partS l b s = ((l.drop b).take s.toNat, 0) := by unfold partS; rw [if_neg (by omega), if_neg h4]; simp
          have hrd : ∀ i : Nat, b + i < l.length → (l.drop b)[i]? = some (rd l ((b : Int) + (i : Int))) := by
            intro i hi
            rw [List.getElem?_drop, List.getElem?_eq_getElem hi]
            unfold rd
            have : ((b : Int) + (i : Int)).toNat = b + i := by omega
            rw [this, List.getD_eq_getElem?_getD, List.getElem?_eq_getElem hi]
            rfl
          rw [e]
          simp only [okSize, Bool.or_eq_true, beq_iff_eq] at ho
          rcases ho with (rfl | rfl) | rfl
          · obtain ⟨g1, r1⟩ := rget_l0 l hb hl b 1 (m + 4) 0 0 (by omega) (by omega) (by omega) (by omega) (by omega)
            have z := hrd 0 (by omega)
            match hx : l.drop b, (by rw [List.length_drop]; omega : 1 ≤ (l.drop b).length) with
            | x :: t, _ =>
              rw [hx] at z
              simp at z
              simp only [Int.add_zero] at g1 r1
              rw [g1, ← z]
              simp [garderoberef02_Get.l0, val]
          · obtain ⟨g1, r1⟩ := rget_l0 l hb hl b 2 (m + 4) 0 0 (by omega) (by omega) (by omega) (by omega) (by omega)
            obtain ⟨g2, r2⟩ := rget_l0 l hb hl b 2 (m + 3) (256 * 0 + rd l (b + 0)) (0 + 1) (by omega) (by omega) (by omega) (by omega) (by omega)
            have z := hrd 0 (by omega)
            have y := hrd 1 (by omega)
            match hx : l.drop b, (by rw [List.length_drop]; omega : 2 ≤ (l.drop b).length) with
            | x :: x1 :: t, _ =>
              rw [hx] at z y
              simp at z y
              rw [g1, g2]
              simp [garderoberef02_Get.l0, val, ← z, ← y]
          · obtain ⟨g1, r1⟩ := rget_l0 l hb hl b 4 (m + 4) 0 0 (by omega) (by omega) (by omega) (by omega) (by omega)
            obtain ⟨g2, r2⟩ := rget_l0 l hb hl b 4 (m + 3) (256 * 0 + rd l (b + 0)) (0 + 1) (by omega) (by omega) (by omega) (by omega) (by omega)
            obtain ⟨g3, r3⟩ := rget_l0 l hb hl b 4 (m + 2) (256 * (256 * 0 + rd l (b + 0)) + rd l (b + (0 + 1))) (0 + 1 + 1) (by omega) (by omega) (by omega) (by omega) (by omega)
            obtain ⟨g4, r4⟩ := rget_l0 l hb hl b 4 (m + 1) (256 * (256 * (256 * 0 + rd l (b + 0)) + rd l (b + (0 + 1))) + rd l (b + (0 + 1 + 1))) (0 + 1 + 1 + 1) (by omega) (by omega) (by omega) (by omega) (by omega)
            have z := hrd 0 (by omega)
            have y := hrd 1 (by omega)
            have u := hrd 2 (by omega)
            have v := hrd 3 (by omega)
            match hx : l.drop b, (by rw [List.length_drop]; omega : 4 ≤ (l.drop b).length) with
            | x :: x1 :: x2 :: x3 :: t, _ =>
              rw [hx] at z y u v
              simp at z y u v
              rw [g1, g2, g3, g4]
              simp [garderoberef02_Get.l0, val, ← z, ← y, ← u, ← v]
  · rw [if_neg ho, if_neg ho]
    simp [garderoberef02_Get.j0]
theorem ref_PutRow_eq (k : Nat) (hk : 20 ≤ k) (l : List Int) (s : Int) (hl : l.length < 140737488355328) : garderoberef02_PutRow.f k l s = some (putRowS l s) := by
  obtain ⟨m, rfl⟩ : ∃ m, k = m + 1 := ⟨k - 1, by omega⟩
  unfold garderoberef02_PutRow.f putRowS
  by_cases h1 : s = 1
  · subst h1
    rw [if_pos rfl, if_neg (by omega)]
    simp only [garderoberef02_PutRow.j0]
    rw [if_neg (by decide), if_pos (by simp)]
    by_cases h : (l.length : Int) > 255
    · rw [if_pos h, if_pos (by simp; omega)]
    · have hf : fits ((l.length : Int) % 4294967296) 1 = true := by simp [fits]; omega
      rw [if_neg h, if_neg (by omega), if_neg (by omega), ref_Put_eq _ (by omega) _ _ (by omega) (by omega)]
      simp only [Option.bind_some, putS]
      rw [if_pos hf]
      simp only [be_length, if_true]
      rw [if_pos (by omega), show (l.length : Int) % 4294967296 = l.length from by omega]
  · rw [if_neg h1]
    by_cases h2 : s = 2
    · subst h2
      rw [if_neg (by omega)]
      simp only [garderoberef02_PutRow.j0]
      rw [if_neg (by decide), if_neg (by decide)]
      by_cases h : (l.length : Int) > 65535
      · rw [if_pos h, if_pos (by omega)]
      · have hf : fits ((l.length : Int) % 4294967296) 2 = true := by simp [fits]; omega
        rw [if_neg h, if_neg (by omega), ref_Put_eq _ (by omega) _ _ (by omega) (by omega)]
        simp only [Option.bind_some, putS]
        rw [if_pos hf]
        simp only [be_length]
        rw [if_pos (by simp; omega), show (l.length : Int) % 4294967296 = l.length from by omega]
    · rw [if_pos ⟨h1, h2⟩]
      simp [garderoberef02_PutRow.j0, h2]
theorem ends_GetRow_eq (k : Nat) (hk : 20 ≤ k) (l : List Int) (hb : Bytes l) (a s : Int) (hl : l.length < 140737488355328) (ha : -9223372036854775808 ≤ a ∧ a ≤ 9223372036854775807) : ends_GetRow.f k l a s = some (getRowS l a s) := by
  obtain ⟨m, rfl⟩ : ∃ m, k = m + 1 := ⟨k - 1, by omega⟩
  have main : ∀ t : Int, t = 1 ∨ t = 2 → ends_GetRow.j0 (m + 1) l a t false = some (getRowS l a t) := by
    intro t ht
    have h1 := get_range hb a t
    have hok : okSize t = true := by simp [okSize]; omega
    unfold getRowS
    rw [if_neg (by omega)]
    simp only [ends_GetRow.j0]
    rw [if_neg (by decide), ends_Get_eq _ (by omega) l hb a t hl ha (by omega)]
    simp only [Option.bind_some]
    by_cases he : (getS l a t).2 = 0
    · have hp : 0 ≤ a ∧ a + t ≤ l.length := by
        have : (partS l a t).2 = 0 := by unfold getS at he; rw [if_pos hok] at he; exact he
        have := part_length this
        omega
      rw [if_pos he, if_pos he, wrap_id (n := a + t) (by omega) (by omega), wrap_id (n := (getS l a t).1) (by omega) (by omega)]
      rw [ends_Part_eq _ (by omega) l _ _ hl (by omega) (by omega)]
      simp only [Option.bind_some]
      rw [wrap_id (n := a + t + (getS l a t).1) (by omega) (by omega)]
      split <;> rfl
    · rw [if_neg he, if_neg he]
  unfold ends_GetRow.f
  by_cases h1 : s = 1
  · subst h1; rw [if_pos rfl]; exact main 1 (.inl rfl)
  · rw [if_neg h1]
    by_cases h2 : s = 2
    · subst h2; exact main 2 (.inr rfl)
    · unfold getRowS; rw [if_pos ⟨h1, h2⟩]; simp [ends_GetRow.j0, h2]
theorem ref_GetRow_eq (k : Nat) (hk : 20 ≤ k) (l : List Int) (hb : Bytes l) (a s : Int) (hl : l.length < 140737488355328) (ha : -9223372036854775808 ≤ a ∧ a ≤ 9223372036854775807) : garderoberef02_GetRow.f k l a s = some (getRowS l a s) := by
  obtain ⟨m, rfl⟩ : ∃ m, k = m + 1 := ⟨k - 1, by omega⟩
  have main : ∀ t : Int, t = 1 ∨ t = 2 → garderoberef02_GetRow.j0 (m + 1) l a t false = some (getRowS l a t) := by
    intro t ht
    have h1 := get_range hb a t
    have hok : okSize t = true := by simp [okSize]; omega
    unfold getRowS
    rw [if_neg (by omega)]
    simp only [garderoberef02_GetRow.j0]
    rw [if_neg (by decide), ref_Get_eq _ (by omega) l hb a t hl ha (by omega)]
    simp only [Option.bind_some]
    by_cases he : (getS l a t).2 = 0
    · have hp : 0 ≤ a ∧ a + t ≤ l.length := by
        have : (partS l a t).2 = 0 := by unfold getS at he; rw [if_pos hok] at he; exact he
        have := part_length this
        omega
      rw [if_pos he, if_pos he, wrap_id (n := a + t) (by omega) (by omega), wrap_id (n := (getS l a t).1) (by omega) (by omega)]
      rw [ref_Part_eq _ (by omega) l _ _ hl (by omega) (by omega)]
      simp only [Option.bind_some]
      rw [wrap_id (n := a + t + (getS l a t).1) (by omega) (by omega)]
      split <;> rfl
    · rw [if_neg he, if_neg he]
  unfold garderoberef02_GetRow.f
  by_cases h1 : s = 1
  · subst h1; rw [if_pos rfl]; exact main 1 (.inl rfl)
  · rw [if_neg h1]
    by_cases h2 : s = 2
    · subst h2; exact main 2 (.inr rfl)
    · unfold getRowS; rw [if_pos ⟨h1, h2⟩]; simp [garderoberef02_GetRow.j0, h2]
theorem Wide_eq (k : Nat) (l : List Int) (h : l.length ≤ 140737488355328) : garderoberef00_Wide.f k l = some l := by
  unfold garderoberef00_Wide.f
  rw [if_pos h]
theorem Left_eq (k : Nat) (l : List Int) (h : l.length ≤ 140737488355328) : garderoberef00_Left.f k l l = some true := by
  unfold garderoberef00_Left.f
  rw [if_pos ⟨rfl, h⟩]
theorem types_of_eq (k : Nat) (hk : 3 ≤ k) (a : Int) : types_of.f k a = some (ofS a) := by
  obtain ⟨m, rfl⟩ : ∃ m, k = m + 1 := ⟨k - 1, by omega⟩
  unfold types_of.f ofS
  by_cases h1 : a = 1
  · simp [h1, types_of.j0]
  · by_cases h2 : a = 2
    · simp [h2, types_of.j0]
    · by_cases h3 : a = 3
      · simp [h3, types_of.j0]
      · by_cases h5 : a = 5
        · simp [h5, types_of.j0]
        · by_cases h6 : a = 6
          · simp [h6, types_of.j0]
          · by_cases h7 : a = 7
            · simp [h7, types_of.j0]
            · by_cases h4 : a = 4
              · simp [h4, types_of.j0]
              · by_cases h8 : a = 8 <;> simp [*, types_of.j0]
theorem types_May_eq (k : Nat) (hk : 3 ≤ k) (a b : Int) : types_May.f k a b = some (mayT (a, b)) := by
  unfold types_May.f mayT
  rw [types_of_eq k hk]
  simp only [Option.bind_some]
  rcases ofS_range a with h | ⟨h, _⟩ | ⟨h, _⟩ <;> simp [h]
theorem types_Put_eq (k : Nat) (hk : 20 ≤ k) (a b : Int) (hb : 0 ≤ b ∧ b ≤ 65535) : types_Put.f k a b = some (putT (a, b)) := by
  unfold types_Put.f putT
  rw [types_May_eq k (by omega)]
  simp only [Option.bind_some]
  split
  · rw [types_of_eq k (by omega)]
    simp only [Option.bind_some]
    have e : b % 4294967296 = b := by omega
    have hf : fits b 2 = true := by simp [fits]; omega
    by_cases h : ofS a = 2
    · rw [if_pos h, e, ends_Put_eq k (by omega) b 2 (by omega) (by omega)]
      simp [putS, hf, bytesT, h, be]
    · rw [if_neg h]; simp [bytesT, h]
  · rfl
theorem types_Get_eq (k : Nat) (hk : 20 ≤ k) (l : List Int) (hb : Bytes l) (a : Int) (hl : l.length < 140737488355328) (ha : -9223372036854775808 ≤ a ∧ a ≤ 9223372036854775807) : types_Get.f k l a = some ((getT l a).1.1, (getT l a).1.2, (getT l a).2.1, (getT l a).2.2) := by
  have hr := get_range hb a 1
  have hr2 := get_range hb (a + 1) 2
  unfold types_Get.f getT
  rw [ends_Get_eq k (by omega) l hb a 1 hl ha (by omega)]
  simp only [Option.bind_some]
  by_cases h1 : (getS l a 1).2 = 0
  · have p1 := get_place (s := 1) (by decide) h1
    have e : (getS l a 1).1 % 256 = (getS l a 1).1 := by omega
    rw [if_pos h1, if_pos h1, e, types_of_eq k (by omega)]
    simp only [Option.bind_some]
    by_cases h2 : ofS (getS l a 1).1 = 0
    · rw [if_pos h2, if_pos h2]
    · rw [if_neg h2, if_neg h2]
      by_cases h3 : ofS (getS l a 1).1 = 1
      · rw [if_pos h3, if_pos h3, wrap_id (n := a + 1) (by omega) (by omega)]
      · rw [if_neg h3, if_neg h3, wrap_id (n := a + 1) (by omega) (by omega), ends_Get_eq k (by omega) l hb (a + 1) 2 hl (by omega) (by omega)]
        simp only [Option.bind_some]
        by_cases h4 : (getS l (a + 1) 2).2 = 0
        · have e2 : IntKind.u16.wrap (getS l (a + 1) 2).1 = (getS l (a + 1) 2).1 := by
            simp only [IntKind.wrap, IntKind.bits, IntKind.signed]
            simp
            omega
          rw [if_pos h4, if_pos h4, wrap_id (n := a + 3) (by omega) (by omega), e2]
        · rw [if_neg h4, if_neg h4]
  · rw [if_neg h1, if_neg h1]
theorem ref4_Get_eq (k : Nat) (hk : 20 ≤ k) (l : List Int) (hb : Bytes l) (a : Int) (hl : l.length < 140737488355328) (ha : -9223372036854775808 ≤ a ∧ a ≤ 9223372036854775807) : garderoberef04_Get.f k l a = some ((getT l a).1.1, (getT l a).1.2, (getT l a).2.1, (getT l a).2.2) := by
  obtain ⟨m, rfl⟩ : ∃ m, k = m + 1 := ⟨k - 1, by omega⟩
  have hr := get_range hb a 1
  have hr2 := get_range hb (a + 1) 2
  unfold garderoberef04_Get.f getT
  rw [ref_Get_eq (m + 1) (by omega) l hb a 1 hl ha (by omega)]
  simp only [Option.bind_some]
  by_cases h1 : (getS l a 1).2 = 0
  · have p1 := get_place (s := 1) (by decide) h1
    have e : (getS l a 1).1 % 256 = (getS l a 1).1 := by omega
    have hc : garderoberef04_classed.f (getS l a 1).1 = some (decide ((getS l a 1).1 = 4 ∨ (getS l a 1).1 = 8)) := by
      unfold garderoberef04_classed.f
      by_cases h4 : (getS l a 1).1 = 4
      · simp [h4]
      · by_cases h8 : (getS l a 1).1 = 8 <;> simp [h4, h8]
    rw [if_pos h1, if_pos h1]
    by_cases h2 : ofS (getS l a 1).1 = 0
    · rw [if_pos h2]
      have h9 : (getS l a 1).1 < 1 ∨ (getS l a 1).1 > 8 := by
        unfold ofS at h2
        split at h2
        · simp at h2
        · split at h2
          · simp at h2
          · omega
      by_cases h3 : (getS l a 1).1 < 1
      · rw [if_pos h3]; simp [garderoberef04_Get.j0]
      · rw [if_neg h3]; simp [garderoberef04_Get.j0]; omega
    · have h9 := ofS_range (getS l a 1).1
      rw [if_neg h2, if_neg (by omega)]
      simp only [garderoberef04_Get.j0]
      rw [if_neg (by simp; omega), e, hc]
      simp only [Option.bind_some]
      have h10 : (ofS (getS l a 1).1 = 1) ↔ ¬ ((getS l a 1).1 = 4 ∨ (getS l a 1).1 = 8) := by
        unfold ofS; split
        · (try simp) <;> omega
        · split
          · (try simp) <;> omega
          · (try simp) <;> omega
      by_cases h3 : ofS (getS l a 1).1 = 1
      · rw [if_neg (by simpa using h10.1 h3), if_pos h3, wrap_id (n := a + 1) (by omega) (by omega)]
      · rw [if_pos (by simp; exact Classical.not_not.1 (fun h => h3 (h10.2 h))), if_neg h3, wrap_id (n := a + 1) (by omega) (by omega), ref_Get_eq m (by omega) l hb (a + 1) 2 hl (by omega) (by omega)]
        simp only [Option.bind_some]
        by_cases h4 : (getS l (a + 1) 2).2 = 0
        · have e2 : IntKind.u16.wrap (getS l (a + 1) 2).1 = (getS l (a + 1) 2).1 := by
            simp only [IntKind.wrap, IntKind.bits, IntKind.signed]
            simp
            omega
          rw [if_pos h4, if_pos h4, wrap_id (n := a + 1 + 2) (by omega) (by omega), e2, show a + 1 + 2 = a + 3 from by omega]
        · rw [if_neg h4, if_neg h4]
  · rw [if_neg h1, if_neg h1]
def ofP (t : Ty) : S44 := ⟨t.1, t.2⟩
def toP (s : S44) : Ty := (s.f0, s.f1)
theorem toP_ofP (t : Ty) : toP (ofP t) = t := rfl
theorem map_toP_ofP (l : List Ty) : (l.map ofP).map toP = l := by simp [Function.comp_def, toP_ofP]
theorem types_GetSig_l0 (l : List Int) (hb : Bytes l) (hl : l.length < 140737488355328) (N : Int) (hN : N ≤ 15) (r0 r1 : Int) : ∀ (n k : Nat) (a i : Int) (acc : List S44), 0 ≤ i → i + n = N → acc.length + n ≤ 100 → 30 + n ≤ k → 0 ≤ a → a ≤ l.length →
    types_GetSig.l0 k l a N i acc r0 r1 = some (if (getTs l n a).2.2 = 0 then (acc ++ (getTs l n a).1.map ofP, r0, r1, (getTs l n a).2.1, 0) else ([], 0, 0, 0, (getTs l n a).2.2))
  | 0, k, a, i, acc, hi, hin, hc, hk, h0, h1 => by
    obtain ⟨k, rfl⟩ : ∃ m, k = m + 1 := ⟨k - 1, by omega⟩
    simp only [types_GetSig.l0]
    rw [if_neg (by  omega)]
    simp [getTs]
  | n + 1, k, a, i, acc, hi, hin, hc, hk, h0, h1 => by
    obtain ⟨k, rfl⟩ : ∃ m, k = m + 1 := ⟨k - 1, by omega⟩
    simp only [types_GetSig.l0]
    rw [if_pos (by  omega), types_Get_eq k (by omega) l hb a hl (by omega)]
    simp only [Option.bind_some]
    by_cases h : (getT l a).2.2 = 0
    · have p := getT_place h
      rw [if_pos h, if_pos (by omega), show (i + 1) % 4294967296 = i + 1 from by omega]
      rw [types_GetSig_l0 l hb hl N hN r0 r1 n k (getT l a).2.1 (i + 1) _ (by omega) (by omega) (by simp only [List.length_append, List.length_singleton]; omega) (by omega) (by omega) (by omega)]
      by_cases h2 : (getTs l n (getT l a).2.1).2.2 = 0
      · have e : getTs l (n + 1) a = ((getT l a).1 :: (getTs l n (getT l a).2.1).1, (getTs l n (getT l a).2.1).2.1, 0) := by simp only [getTs]; rw [if_pos h, if_pos h2]
        rw [e]
        simp [h2, ofP]
      · have e : getTs l (n + 1) a = ([], 0, (getTs l n (getT l a).2.1).2.2) := by simp only [getTs]; rw [if_pos h, if_neg h2]
        rw [e]
        simp [h2]
    · have e : getTs l (n + 1) a = ([], 0, (getT l a).2.2) := by simp only [getTs]; rw [if_neg h]
      rw [if_neg h, e]
      simp [h]
theorem types_GetSig_eq (k : Nat) (hk : 60 ≤ k) (l : List Int) (hb : Bytes l) (a : Int) (hl : l.length < 140737488355328) (ha : -9223372036854775808 ≤ a ∧ a ≤ 9223372036854775807) :
    types_GetSig.f k l a = some ((getSigS l a).1.map ofP, (getSigS l a).2.1.1, (getSigS l a).2.1.2, (getSigS l a).2.2.1, (getSigS l a).2.2.2) := by
  obtain ⟨m, rfl⟩ : ∃ m, k = m + 3 := ⟨k - 3, by omega⟩
  have hr := get_range hb a 1
  unfold types_GetSig.f getSigS
  rw [ends_Get_eq _ (by omega) l hb a 1 hl ha (by omega)]
  simp only [Option.bind_some]
  by_cases h1 : (getS l a 1).2 = 0
  · have p1 := get_place (s := 1) (by decide) h1
    have e : (getS l a 1).1 % 256 = (getS l a 1).1 := by omega
    rw [if_pos h1, if_pos h1, e, h1]
    have tail : ∀ (q : Nat) (b : Int) (t : Ty), q = m + 2 ∨ q = m + 1 → 0 ≤ b → b ≤ l.length → types_GetSig.j1 (q + 1) l b 0 t.1 t.2 = some (
        if (getS l b 1).2 = 0 then (if (getS l b 1).1 > 15 then ([], 0, 0, 0, 5) else
          if (getTs l (getS l b 1).1.toNat (b + 1)).2.2 = 0 then ((getTs l (getS l b 1).1.toNat (b + 1)).1.map ofP, t.1, t.2, (getTs l (getS l b 1).1.toNat (b + 1)).2.1, 0) else ([], 0, 0, 0, (getTs l (getS l b 1).1.toNat (b + 1)).2.2)) else ([], 0, 0, 0, (getS l b 1).2)) := by
      intro q b t hq hb0 hb1
      simp only [types_GetSig.j1]
      rw [if_pos (by simp), ends_Get_eq _ (by omega) l hb b 1 hl (by omega) (by omega)]
      simp only [Option.bind_some]
      have hr2 := get_range hb b 1
      by_cases h2 : (getS l b 1).2 = 0
      · have p2 := get_place (s := 1) (by decide) h2
        rw [if_pos h2, if_pos h2]
        by_cases h3 : (getS l b 1).1 > 15
        · rw [if_pos h3, if_pos h3]
        · rw [if_neg h3, if_neg h3, wrap_id (n := b + 1) (by omega) (by omega), types_GetSig_l0 l hb hl (getS l b 1).1 (by omega) t.1 t.2 (getS l b 1).1.toNat q (b + 1) 0 [] (by omega) (by omega) (by simp; omega) (by omega) (by omega) (by omega)]
          simp
      · rw [if_neg h2, if_neg h2]
    by_cases h2 : (getS l a 1).1 = 0
    · have eb : ((getS l a 1).1 != 0) = false := by simp [h2]
      have er : getRet l a = ((0, 0), a + 1, 0) := by unfold getRet; rw [if_pos h2]
      rw [eb, er]
      simp only [types_GetSig.j0]
      rw [if_neg (by decide), wrap_id (n := a + 1) (by omega) (by omega)]
      have := tail (m + 1) (a + 1) (0, 0) (.inr rfl) (by omega) (by omega)
      simp only at this
      rw [show m + 2 = (m + 1) + 1 from rfl, this]
      simp only [if_true]
      congr 1
      split
      · split
        · rfl
        · split <;> rfl
      · rfl
    · have eb : ((getS l a 1).1 != 0) = true := by simp [h2]
      have er : getRet l a = getT l a := by unfold getRet; rw [if_neg h2]
      rw [eb, er]
      simp only [types_GetSig.j0]
      rw [if_pos (by simp), types_Get_eq _ (by omega) l hb a hl ha]
      simp only [Option.bind_some]
      by_cases h3 : (getT l a).2.2 = 0
      · have p := getT_place h3
        rw [h3]
        rw [show m + 2 = (m + 1) + 1 from rfl, tail (m + 1) (getT l a).2.1 (getT l a).1 (.inr rfl) (by omega) (by omega)]
        simp only [if_true]
        congr 1
        split
        · split
          · rfl
          · split <;> rfl
        · rfl
      · rw [if_neg h3]
        simp only [types_GetSig.j1]
        rw [if_neg h3]
        rfl
  · rw [if_neg h1, if_neg h1]
    simp [types_GetSig.j0, types_GetSig.j1, h1]
theorem ref4_GetSig_l0 (l : List Int) (hb : Bytes l) (hl : l.length < 140737488355328) (N : Int) (hN : N ≤ 15) (r0 r1 : Int) : ∀ (n k : Nat) (a i : Int) (acc : List S44), 0 ≤ i → i + n = N → acc.length + n ≤ 100 → 30 + n ≤ k → 0 ≤ a → a ≤ l.length →
    garderoberef04_GetSig.l0 k l a N i acc r0 r1 = some (if (getTs l n a).2.2 = 0 then (acc ++ (getTs l n a).1.map ofP, r0, r1, (getTs l n a).2.1, 0) else ([], 0, 0, 0, (getTs l n a).2.2))
  | 0, k, a, i, acc, hi, hin, hc, hk, h0, h1 => by
    obtain ⟨k, rfl⟩ : ∃ m, k = m + 1 := ⟨k - 1, by omega⟩
    simp only [garderoberef04_GetSig.l0]
    rw [if_neg (by rw [wrap_id (n := N) (by omega) (by omega)]; omega)]
    simp [getTs]
  | n + 1, k, a, i, acc, hi, hin, hc, hk, h0, h1 => by
    obtain ⟨k, rfl⟩ : ∃ m, k = m + 1 := ⟨k - 1, by omega⟩
    simp only [garderoberef04_GetSig.l0]
    rw [if_pos (by rw [wrap_id (n := N) (by omega) (by omega)]; omega), ref4_Get_eq k (by omega) l hb a hl (by omega)]
    simp only [Option.bind_some]
    by_cases h : (getT l a).2.2 = 0
    · have p := getT_place h
      rw [if_pos h, if_pos (by omega), wrap_id (n := i + 1) (by omega) (by omega)]
      rw [ref4_GetSig_l0 l hb hl N hN r0 r1 n k (getT l a).2.1 (i + 1) _ (by omega) (by omega) (by simp only [List.length_append, List.length_singleton]; omega) (by omega) (by omega) (by omega)]
      by_cases h2 : (getTs l n (getT l a).2.1).2.2 = 0
      · have e : getTs l (n + 1) a = ((getT l a).1 :: (getTs l n (getT l a).2.1).1, (getTs l n (getT l a).2.1).2.1, 0) := by simp only [getTs]; rw [if_pos h, if_pos h2]
        rw [e]
        simp [h2, ofP]
      · have e : getTs l (n + 1) a = ([], 0, (getTs l n (getT l a).2.1).2.2) := by simp only [getTs]; rw [if_pos h, if_neg h2]
        rw [e]
        simp [h2]
    · have e : getTs l (n + 1) a = ([], 0, (getT l a).2.2) := by simp only [getTs]; rw [if_neg h]
      rw [if_neg h, e]
      simp [h]
theorem ref4_GetSig_eq (k : Nat) (hk : 60 ≤ k) (l : List Int) (hb : Bytes l) (a : Int) (hl : l.length < 140737488355328) (ha : -9223372036854775808 ≤ a ∧ a ≤ 9223372036854775807) :
    garderoberef04_GetSig.f k l a = some ((getSigS l a).1.map ofP, (getSigS l a).2.1.1, (getSigS l a).2.1.2, (getSigS l a).2.2.1, (getSigS l a).2.2.2) := by
  obtain ⟨m, rfl⟩ : ∃ m, k = m + 3 := ⟨k - 3, by omega⟩
  have hr := get_range hb a 1
  unfold garderoberef04_GetSig.f getSigS
  rw [ref_Get_eq _ (by omega) l hb a 1 hl ha (by omega)]
  simp only [Option.bind_some]
  by_cases h1 : (getS l a 1).2 = 0
  · have p1 := get_place (s := 1) (by decide) h1
    rw [if_pos h1, if_pos h1]
    have tail : ∀ (b : Int) (t : Ty), 0 ≤ b → b ≤ l.length → garderoberef04_GetSig.j0 (m + 3) l b t.1 t.2 = some (
        if (getS l b 1).2 = 0 then (if (getS l b 1).1 > 15 then ([], 0, 0, 0, 5) else
          if (getTs l (getS l b 1).1.toNat (b + 1)).2.2 = 0 then ((getTs l (getS l b 1).1.toNat (b + 1)).1.map ofP, t.1, t.2, (getTs l (getS l b 1).1.toNat (b + 1)).2.1, 0) else ([], 0, 0, 0, (getTs l (getS l b 1).1.toNat (b + 1)).2.2)) else ([], 0, 0, 0, (getS l b 1).2)) := by
      intro b t hb0 hb1
      simp only [garderoberef04_GetSig.j0]
      rw [ref_Get_eq _ (by omega) l hb b 1 hl (by omega) (by omega)]
      simp only [Option.bind_some]
      have hr2 := get_range hb b 1
      by_cases h2 : (getS l b 1).2 = 0
      · have p2 := get_place (s := 1) (by decide) h2
        rw [if_pos h2, if_pos h2]
        by_cases h3 : (getS l b 1).1 > 15
        · rw [if_pos h3, if_pos h3]
        · rw [if_neg h3, if_neg h3, wrap_id (n := b + 1) (by omega) (by omega), ref4_GetSig_l0 l hb hl (getS l b 1).1 (by omega) t.1 t.2 (getS l b 1).1.toNat (m + 2) (b + 1) 0 [] (by omega) (by omega) (by simp; omega) (by omega) (by omega) (by omega)]
          simp
      · rw [if_neg h2, if_neg h2]
    by_cases h2 : (getS l a 1).1 = 0
    · have er : getRet l a = ((0, 0), a + 1, 0) := by unfold getRet; rw [if_pos h2]
      rw [if_pos h2, er, wrap_id (n := a + 1) (by omega) (by omega)]
      have := tail (a + 1) (0, 0) (by omega) (by omega)
      simp only at this
      rw [this]
      simp only [if_true]
      congr 1
      split
      · split
        · rfl
        · split <;> rfl
      · rfl
    · have er : getRet l a = getT l a := by unfold getRet; rw [if_neg h2]
      rw [if_neg h2, er, ref4_Get_eq _ (by omega) l hb a hl ha]
      simp only [Option.bind_some]
      by_cases h3 : (getT l a).2.2 = 0
      · have p := getT_place h3
        rw [if_pos h3, if_pos h3, tail (getT l a).2.1 (getT l a).1 (by omega) (by omega)]
        congr 1
        split
        · split
          · rfl
          · split <;> rfl
        · rfl
      · rw [if_neg h3, if_neg h3]
        rfl
  · rw [if_neg h1, if_neg h1]
    rfl
theorem types_PutSig_l0 (ps : List S44) (hb : ∀ s ∈ ps, 0 ≤ s.f1 ∧ s.f1 ≤ 65535) (hps : ps.length ≤ 15) : ∀ (d k i : Nat) (acc : List Int), i + d = ps.length → 30 + d ≤ k → acc.length + 3 * d ≤ 100 →
    types_PutSig.l0 k acc ps (ps.length : Int) (i : Int) = some (if ((ps.drop i).map toP).all mayT = true then (acc ++ ((ps.drop i).map toP).flatMap bytesT, 0) else ([], 2))
  | 0, k, i, acc, h, hk, ha => by
    obtain ⟨k, rfl⟩ : ∃ m, k = m + 1 := ⟨k - 1, by omega⟩
    simp only [types_PutSig.l0]
    rw [if_neg (by omega), List.drop_eq_nil_of_le (by omega)]
    simp
  | d + 1, k, i, acc, h, hk, ha => by
    obtain ⟨k, rfl⟩ : ∃ m, k = m + 1 := ⟨k - 1, by omega⟩
    have h1 : i < ps.length := by omega
    have e1 : rd_T44 ps (i : Int) = ps[i] := by simp [rd_T44, h1]
    have hbi := hb ps[i] (List.getElem_mem h1)
    simp only [types_PutSig.l0]
    rw [if_pos (by omega), if_pos (by omega), if_pos (by omega), e1, types_Put_eq k (by omega) _ _ hbi]
    simp only [Option.bind_some]
    have hd : (ps.drop i).map toP = (ps[i].f0, ps[i].f1) :: (ps.drop (i + 1)).map toP := by rw [List.drop_eq_getElem_cons h1]; rfl
    rw [hd, List.all_cons, List.flatMap_cons]
    have hlen : (bytesT (ps[i].f0, ps[i].f1)).length ≤ 3 := by unfold bytesT; split <;> simp
    cases hm : mayT (ps[i].f0, ps[i].f1) with
    | true =>
      simp only [putT, hm, if_true]
      rw [if_pos (by omega), wrap_id (by omega) (by omega), show ((i : Int) + 1) = ((i + 1 : Nat) : Int) from by omega, types_PutSig_l0 ps hb hps d k (i + 1) _ (by omega) (by omega) (by simp only [List.length_append]; omega)]
      simp only [Bool.true_and, List.append_assoc]
    | false => simp [putT, hm]
theorem types_PutSig_eq (k : Nat) (hk : 60 ≤ k) (ps : List S44) (hb : ∀ s ∈ ps, 0 ≤ s.f1 ∧ s.f1 ≤ 65535) (r0 r1 : Int) (hr : 0 ≤ r1 ∧ r1 ≤ 65535) : types_PutSig.f k ps r0 r1 = some (putSigS (ps.map toP) (r0, r1)) := by
  obtain ⟨m, rfl⟩ : ∃ m, k = m + 1 := ⟨k - 1, by omega⟩
  have tail : ∀ ret : List Int, ret.length ≤ 3 → types_PutSig.j0 (m + 1) ret ps r0 r1 = some (if (decide (ps.length ≤ 15) && (ps.map toP).all mayT) = true then (ret ++ [(ps.length : Int)] ++ (ps.map toP).flatMap bytesT, 0) else ([], 2)) := by
    intro ret hret
    simp only [types_PutSig.j0]
    by_cases h : (ps.length : Int) > 15
    · rw [if_pos h, show decide (ps.length ≤ 15) = false from decide_eq_false (by omega)]
      simp
    · have := types_PutSig_l0 ps hb (by omega) ps.length m 0 (ret ++ [((ps.length : Int)) % 256]) (by omega) (by omega) (by simp only [List.length_append, List.length_singleton]; omega)
      rw [if_neg h, if_pos (by omega), show decide (ps.length ≤ 15) = true from decide_eq_true (by omega)]
      simp only [List.drop_zero, Int.natCast_zero] at this
      rw [this, show (ps.length : Int) % 256 = ps.length from by omega]
      simp
  unfold types_PutSig.f putSigS maySig sigBytes retBytes
  by_cases h0 : (r0, r1) = ((0, 0) : Ty)
  · obtain ⟨rfl, rfl⟩ := Prod.mk.inj h0
    rw [if_neg (by simp), tail [0] (by simp)]
    simp
  · have hne : (!(r0 == 0) || !(r1 == 0)) = true := by
      simp only [Prod.mk.injEq] at h0
      simp only [Bool.or_eq_true, Bool.not_eq_true', beq_eq_false_iff_ne]
      omega
    have hbe : ((r0, r1) == ((0, 0) : Ty)) = false := by simpa using h0
    rw [if_pos hne, types_Put_eq _ (by omega) r0 r1 hr, hbe]
    simp only [Option.bind_some]
    cases hm : mayT (r0, r1) with
    | true =>
      have hlen : (bytesT (r0, r1)).length ≤ 3 := by unfold bytesT; split <;> simp
      simp only [putT, hm, if_true]
      rw [tail _ hlen, if_neg h0]
      simp
    | false => simp [putT, hm]
theorem ref4_classed_eq (a : Int) : garderoberef04_classed.f a = some (decide (a = 4 ∨ a = 8)) := by
  unfold garderoberef04_classed.f
  by_cases h4 : a = 4
  · simp [h4]
  · by_cases h8 : a = 8 <;> simp [h4, h8]
theorem ref4_May_eq (a b : Int) : garderoberef04_May.f a b = some (mayT (a, b)) := by
  unfold garderoberef04_May.f mayT
  rw [ref4_classed_eq]
  simp only [Option.bind_some]
  have hr := ofS_range a
  have h10 : (ofS a = 2) ↔ (a = 4 ∨ a = 8) := by
    unfold ofS; split
    · (try simp) <;> omega
    · split
      · (try simp) <;> omega
      · (try simp) <;> omega
  have h11 : (ofS a = 0) ↔ (a < 1 ∨ a > 8) := by
    unfold ofS; split
    · (try simp) <;> omega
    · split
      · (try simp) <;> omega
      · (try simp) <;> omega
  by_cases h1 : a ≥ 1
  · rw [if_pos h1]
    by_cases h2 : a ≤ 8
    · rw [if_pos h2]
      by_cases h3 : a = 4 ∨ a = 8
      · have := h10.2 h3
        simp [h3, this]
      · have h4 : ¬ ofS a = 2 := fun h => h3 (h10.1 h)
        have h5 : ¬ ofS a = 0 := fun h => by have := h11.1 h; omega
        have h6 : ofS a = 1 := by omega
        simp [h3, h6]
    · rw [if_neg h2]
      have := h11.2 (by omega)
      simp [this]
  · rw [if_neg h1]
    have := h11.2 (by omega)
    simp [this]
theorem ref4_Put_eq (a b : Int) (hb : 0 ≤ b ∧ b ≤ 65535) : garderoberef04_Put.f a b = some (putT (a, b)) := by
  unfold garderoberef04_Put.f putT
  rw [ref4_May_eq]
  simp only [Option.bind_some]
  have h10 : (ofS a = 2) ↔ (a = 4 ∨ a = 8) := by
    unfold ofS; split
    · (try simp) <;> omega
    · split
      · (try simp) <;> omega
      · (try simp) <;> omega
  split
  · rw [ref4_classed_eq]
    simp only [Option.bind_some]
    by_cases h : a = 4 ∨ a = 8
    · have h2 := h10.2 h
      have e1 : IntKind.u16.wrap (b.tdiv 256) % 256 = b / 256 % 256 := by
        rw [Int.tdiv_eq_ediv_of_nonneg hb.1]
        simp only [IntKind.wrap, IntKind.bits, IntKind.signed]
        first | (simp; done) | (simp; omega)
      have e2 : b.tmod 256 % 256 = b % 256 := by rw [Int.tmod_eq_emod_of_nonneg hb.1]; omega
      rw [if_pos (by simpa using h), e1, e2]
      simp [bytesT, h2]
    · have h2 : ¬ ofS a = 2 := fun e => h (h10.1 e)
      rw [if_neg (by simpa using h)]
      simp [bytesT, h2]
  · rfl
theorem ref4_MaySig_l0 (ps : List S44) (hps : ps.length ≤ 15) (r0 r1 : Int) : ∀ (d k i : Nat), i + d = ps.length → 5 + d ≤ k →
    garderoberef04_MaySig.l0 k (i : Int) ps r0 r1 = some (((ps.drop i).map toP).all mayT)
  | 0, k, i, h, hk => by
    obtain ⟨k, rfl⟩ : ∃ m, k = m + 1 := ⟨k - 1, by omega⟩
    simp only [garderoberef04_MaySig.l0]
    rw [if_neg (by omega), List.drop_eq_nil_of_le (by omega)]
    simp
  | d + 1, k, i, h, hk => by
    obtain ⟨k, rfl⟩ : ∃ m, k = m + 1 := ⟨k - 1, by omega⟩
    have h1 : i < ps.length := by omega
    have e1 : rd_T44 ps (i : Int) = ps[i] := by simp [rd_T44, h1]
    simp only [garderoberef04_MaySig.l0]
    rw [if_pos (by omega), if_pos (by omega), e1, ref4_May_eq]
    simp only [Option.bind_some]
    have hd : (ps.drop i).map toP = (ps[i].f0, ps[i].f1) :: (ps.drop (i + 1)).map toP := by rw [List.drop_eq_getElem_cons h1]; rfl
    rw [hd, List.all_cons]
    cases hm : mayT (ps[i].f0, ps[i].f1) with
    | true =>
      rw [if_pos rfl, wrap_id (by omega) (by omega), show ((i : Int) + 1) = ((i + 1 : Nat) : Int) from by omega, ref4_MaySig_l0 ps hps r0 r1 d k (i + 1) (by omega) (by omega)]
      simp
    | false => simp
theorem ref4_MaySig_eq (k : Nat) (hk : 30 ≤ k) (ps : List S44) (r0 r1 : Int) : garderoberef04_MaySig.f k ps r0 r1 = some (maySig (ps.map toP) (r0, r1)) := by
  obtain ⟨m, rfl⟩ : ∃ m, k = m + 1 := ⟨k - 1, by omega⟩
  have tail : garderoberef04_MaySig.j0 (m + 1) (decide ((ps.length : Int) > 15)) ps r0 r1 = some (decide (ps.length ≤ 15) && (ps.map toP).all mayT) := by
    simp only [garderoberef04_MaySig.j0]
    by_cases h : (ps.length : Int) > 15
    · rw [if_pos (by simpa using h), show decide (ps.length ≤ 15) = false from decide_eq_false (by omega)]
      simp
    · have := ref4_MaySig_l0 ps (by omega) r0 r1 ps.length m 0 (by omega) (by omega)
      rw [if_neg (by simpa using h), show decide (ps.length ≤ 15) = true from decide_eq_true (by omega)]
      simpa using this
  unfold garderoberef04_MaySig.f maySig
  by_cases h0 : (r0, r1) = ((0, 0) : Ty)
  · obtain ⟨rfl, rfl⟩ := Prod.mk.inj h0
    rw [if_neg (by simp), tail]
    simp
  · have hne : (!(r0 == 0) || !(r1 == 0)) = true := by
      simp only [Prod.mk.injEq] at h0
      simp only [Bool.or_eq_true, Bool.not_eq_true', beq_eq_false_iff_ne]
      omega
    have hbe : ((r0, r1) == ((0, 0) : Ty)) = false := by simpa using h0
    rw [if_pos hne, ref4_May_eq, hbe]
    simp only [Option.bind_some]
    cases hm : mayT (r0, r1) with
    | true => rw [if_pos rfl, tail]; simp
    | false => simp [garderoberef04_MaySig.j0]
theorem ref4_PutSig_l0 (ps : List S44) (hb : ∀ s ∈ ps, 0 ≤ s.f1 ∧ s.f1 ≤ 65535) (hps : ps.length ≤ 15) (hm : (ps.map toP).all mayT = true) (r0 r1 : Int) : ∀ (d k i : Nat) (acc : List Int), i + d = ps.length → 30 + d ≤ k → acc.length + 3 * d ≤ 100 →
    garderoberef04_PutSig.l0 k acc (i : Int) ps r0 r1 = some (acc ++ ((ps.drop i).map toP).flatMap bytesT, 0)
  | 0, k, i, acc, h, hk, ha => by
    obtain ⟨k, rfl⟩ : ∃ m, k = m + 1 := ⟨k - 1, by omega⟩
    simp only [garderoberef04_PutSig.l0]
    rw [if_neg (by omega), List.drop_eq_nil_of_le (by omega)]
    simp
  | d + 1, k, i, acc, h, hk, ha => by
    obtain ⟨k, rfl⟩ : ∃ m, k = m + 1 := ⟨k - 1, by omega⟩
    have h1 : i < ps.length := by omega
    have e1 : rd_T44 ps (i : Int) = ps[i] := by simp [rd_T44, h1]
    have hbi := hb ps[i] (List.getElem_mem h1)
    have hmi : mayT (ps[i].f0, ps[i].f1) = true := List.all_eq_true.1 hm _ (List.mem_map.2 ⟨ps[i], List.getElem_mem h1, rfl⟩)
    simp only [garderoberef04_PutSig.l0]
    rw [if_pos (by omega), if_pos (by omega), e1, ref4_Put_eq _ _ hbi]
    simp only [Option.bind_some]
    have hd : (ps.drop i).map toP = (ps[i].f0, ps[i].f1) :: (ps.drop (i + 1)).map toP := by rw [List.drop_eq_getElem_cons h1]; rfl
    rw [hd, List.flatMap_cons]
    have hlen : (bytesT (ps[i].f0, ps[i].f1)).length ≤ 3 := by unfold bytesT; split <;> simp
    simp only [putT, hmi, if_true]
    rw [if_pos (by omega), wrap_id (by omega) (by omega), show ((i : Int) + 1) = ((i + 1 : Nat) : Int) from by omega, ref4_PutSig_l0 ps hb hps hm r0 r1 d k (i + 1) _ (by omega) (by omega) (by simp only [List.length_append]; omega)]
    simp only [List.append_assoc]
theorem ref4_PutSig_eq (k : Nat) (hk : 60 ≤ k) (ps : List S44) (hb : ∀ s ∈ ps, 0 ≤ s.f1 ∧ s.f1 ≤ 65535) (r0 r1 : Int) (hr : 0 ≤ r1 ∧ r1 ≤ 65535) : garderoberef04_PutSig.f k ps r0 r1 = some (putSigS (ps.map toP) (r0, r1)) := by
  obtain ⟨m, rfl⟩ : ∃ m, k = m + 1 := ⟨k - 1, by omega⟩
  unfold garderoberef04_PutSig.f putSigS
  rw [ref4_MaySig_eq _ (by omega)]
  simp only [Option.bind_some]
  split
  · rename_i hms
    have hms' := hms
    simp only [maySig, Bool.and_eq_true, decide_eq_true_eq, List.length_map, Bool.or_eq_true, beq_iff_eq] at hms'
    obtain ⟨⟨h1, h2⟩, h3⟩ := hms'
    have tail : ∀ ret : List Int, ret.length ≤ 3 → garderoberef04_PutSig.j0 (m + 1) ret ps r0 r1 = some (ret ++ [(ps.length : Int)] ++ (ps.map toP).flatMap bytesT, 0) := by
      intro ret hret
      simp only [garderoberef04_PutSig.j0]
      have := ref4_PutSig_l0 ps hb h2 h3 r0 r1 ps.length m 0 (ret ++ [((ps.length : Int)) % 256]) (by omega) (by omega) (by simp only [List.length_append, List.length_singleton]; omega)
      have e0 : ((0 : Nat) : Int) = 0 := rfl
      rw [e0, List.drop_zero] at this
      rw [if_pos (by omega), this, show (ps.length : Int) % 256 = ps.length from by omega]
    unfold sigBytes retBytes
    by_cases h0 : r0 = 0
    · have : (r0, r1) = ((0, 0) : Ty) := by
        rcases h1 with h1 | h1
        · exact h1
        · rw [h0] at h1; simp [mayT, ofS] at h1
      rw [if_pos h0, if_pos this, tail [0] (by simp)]
      simp
    · have hne : ¬ (r0, r1) = ((0, 0) : Ty) := fun e => h0 (Prod.mk.inj e).1
      have hm : mayT (r0, r1) = true := by rcases h1 with h1 | h1; exact absurd h1 hne; exact h1
      have hlen : (bytesT (r0, r1)).length ≤ 3 := by unfold bytesT; split <;> simp
      rw [if_neg h0, ref4_Put_eq r0 r1 hr, if_neg hne]
      simp only [Option.bind_some, putT, hm, if_true]
      rw [tail _ hlen]
      simp
  · rfl
def tyB (t : S44) : List Int := bytesT (toP t)
def wB (n : Int) : List Int := [n / 256 % 256, n % 256]
def ifB (i : S41) : List Int := wB i.f0 ++ ([(i.f1.length : Int)] ++ i.f1)
def sigOk (s : S66) : Bool := maySig (s.f0.map toP) (toP s.f1)
def sigB (s : S66) : List Int := sigBytes (s.f0.map toP) (toP s.f1)
def rowB {α : Type} (f : α → List Int) (l : List α) : List Int := [(l.length : Int)] ++ l.flatMap f
def mayC (x : S38) : Bool := decide (Go.bits .andNot .u8 x.f0 7 = 0) && (if Go.bits .and .u8 x.f0 1 = 0 then decide (x.f5.length = 0) && (decide (x.f2.length ≤ 16) && (decide (x.f4.length ≤ 255) && (decide (x.f3.length ≤ 255) && (x.f3.all (fun t => mayT (toP t)) && x.f2.all (fun i => decide (i.f1.length ≤ 255)))))) else decide (Go.bits .and .u8 x.f0 4 = 0) && (decide (x.f1 = 65535) && (decide (x.f2.length + x.f3.length + x.f4.length = 0) && (decide (x.f5.length ≤ 255) && x.f5.all sigOk))))
def bytesC (x : S38) : List Int := [x.f0] ++ (if Go.bits .and .u8 x.f0 1 = 0 then wB x.f1 ++ (rowB ifB x.f2 ++ (rowB tyB x.f3 ++ rowB wB x.f4)) else rowB sigB x.f5)
def putC (l : List S38) : List Int × Int := if l.all mayC = true then (if l.length > 64 then ([], 3) else (rowB bytesC l, 0)) else ([], 2)
def okTy (t : S44) : Prop := okT (toP t)
def okW (n : Int) : Prop := 0 ≤ n ∧ n ≤ 65535
def okIf (i : S41) : Prop := okW i.f0 ∧ Bytes i.f1
def okSig (s : S66) : Prop := (∀ t ∈ s.f0, okTy t) ∧ okTy s.f1
def okC (x : S38) : Prop := (0 ≤ x.f0 ∧ x.f0 ≤ 255) ∧ okW x.f1 ∧ (∀ i ∈ x.f2, okIf i) ∧ (∀ t ∈ x.f3, okTy t) ∧ (∀ n ∈ x.f4, okW n) ∧ (∀ s ∈ x.f5, okSig s) ∧ x.f2.length + x.f3.length + x.f4.length ≤ 1000000000000000000
theorem each44_eq (l : List S44) : each44 5 l = some (l.all fun t => mayT (toP t)) := by
  induction l with
  | nil => rfl
  | cons x r ih =>
    unfold each44
    rw [types_May_eq 5 (by decide), Option.bind_some, List.all_cons, ih]
    cases h : mayT (x.f0, x.f1) <;> simp [toP, h]
theorem each41_eq (l : List S41) : each41 l = some (l.all fun i => decide (i.f1.length ≤ 255)) := by
  induction l with
  | nil => rfl
  | cons x r ih =>
    unfold each41
    rw [List.all_cons, ih]
    by_cases h : x.f1.length ≤ 255 <;> simp [h]
theorem sig_eq (k : Nat) (hk : 60 ≤ k) (s : S66) (h : okSig s) : types_PutSig.f k s.f0 s.f1.f0 s.f1.f1 = some (if sigOk s = true then (sigB s, 0) else ([], 2)) := by
  rw [types_PutSig_eq k hk s.f0 (fun t ht => by have := h.1 t ht; unfold okTy okT toP at this; exact this.2.2) s.f1.f0 s.f1.f1 (by have := h.2; unfold okTy okT toP at this; exact this.2.2)]
  rfl
theorem each66_eq (l : List S66) (h : ∀ s ∈ l, okSig s) : each66 60 l = some (l.all sigOk) := by
  induction l with
  | nil => rfl
  | cons x r ih =>
    unfold each66
    rw [sig_eq 60 (by decide) x (h x List.mem_cons_self), Option.bind_some, List.all_cons, ih (fun s hs => h s (List.mem_cons_of_mem _ hs))]
    cases h : sigOk x <;> simp
theorem class_May_eq (x : S38) (h : okC x) : class_May.f x.f0 x.f1 x.f2 x.f3 x.f4 x.f5 = some (mayC x) := by
  obtain ⟨_, _, _, _, _, h5, hl⟩ := h
  unfold class_May.f mayC
  by_cases c1 : Go.bits .andNot .u8 x.f0 7 = 0
  · rw [if_pos c1, decide_eq_true c1, Bool.true_and]
    by_cases c2 : Go.bits .and .u8 x.f0 1 = 0
    · rw [if_pos c2, if_pos c2]
      by_cases c3 : x.f5.length = 0
      · rw [if_pos c3, decide_eq_true c3, Bool.true_and]
        by_cases c4 : x.f2.length ≤ 16
        · rw [if_pos c4, decide_eq_true c4, Bool.true_and]
          by_cases c5 : x.f4.length ≤ 255
          · rw [if_pos c5, decide_eq_true c5, Bool.true_and]
            by_cases c6 : x.f3.length ≤ 255
            · rw [if_neg (by omega), decide_eq_true c6, Bool.true_and, each44_eq, Option.bind_some, if_neg (by omega : ¬ x.f2.length > 255), each41_eq]
              cases x.f3.all (fun t => mayT (toP t)) <;> simp
            · rw [if_pos (by omega), decide_eq_false c6]
              simp
          · rw [if_neg c5, decide_eq_false c5, Bool.false_and]
        · rw [if_neg c4, decide_eq_false c4, Bool.false_and]
      · rw [if_neg c3, decide_eq_false c3, Bool.false_and]
    · rw [if_neg c2, if_neg c2]
      by_cases c3 : Go.bits .and .u8 x.f0 4 = 0
      · rw [if_pos c3, decide_eq_true c3, Bool.true_and]
        by_cases c4 : x.f1 = 65535
        · rw [if_pos c4, decide_eq_true c4, Bool.true_and]
          have hw : wrap64 (wrap64 ((x.f2.length : Int) + (x.f3.length : Int)) + (x.f4.length : Int)) = (x.f2.length : Int) + (x.f3.length : Int) + (x.f4.length : Int) := by
            rw [wrap_id (n := (x.f2.length : Int) + (x.f3.length : Int)) (by omega) (by omega), wrap_id (by omega) (by omega)]
          rw [hw]
          by_cases c5 : x.f2.length + x.f3.length + x.f4.length = 0
          · rw [if_pos (by omega), decide_eq_true c5, Bool.true_and]
            by_cases c6 : x.f5.length ≤ 255
            · rw [if_neg (by omega), decide_eq_true c6, Bool.true_and, each66_eq _ h5]
            · rw [if_pos (by omega), decide_eq_false c6, Bool.false_and]
          · rw [if_neg (by omega), decide_eq_false c5, Bool.false_and]
        · rw [if_neg c4, decide_eq_false c4, Bool.false_and]
      · rw [if_neg c3, decide_eq_false c3, Bool.false_and]
  · rw [if_neg c1, decide_eq_false c1, Bool.false_and]
theorem tyB_len (t : S44) : (tyB t).length ≤ 3 := by unfold tyB bytesT; split <;> simp
theorem sigB_len {s : S66} (h : sigOk s = true) : (sigB s).length ≤ 49 := by
  have h1 := sig_len (s.f0.map toP) (toP s.f1)
  unfold sigOk maySig at h
  simp only [Bool.and_eq_true, decide_eq_true_eq, List.length_map] at h
  unfold sigB
  rw [List.length_map] at h1
  omega
theorem may_cls {x : S38} (h : mayC x = true) (c : Go.bits .and .u8 x.f0 1 = 0) : Go.bits .andNot .u8 x.f0 7 = 0 ∧ x.f5 = [] ∧ x.f2.length ≤ 16 ∧ x.f4.length ≤ 255 ∧ x.f3.length ≤ 255 ∧ x.f3.all (fun t => mayT (toP t)) = true ∧ x.f2.all (fun i => decide (i.f1.length ≤ 255)) = true := by
  unfold mayC at h
  rw [if_pos c] at h
  simp only [Bool.and_eq_true, decide_eq_true_eq] at h
  exact ⟨h.1, List.length_eq_zero_iff.mp h.2.1, h.2.2.1, h.2.2.2.1, h.2.2.2.2.1, h.2.2.2.2.2.1, h.2.2.2.2.2.2⟩
theorem may_ifc {x : S38} (h : mayC x = true) (c : ¬ Go.bits .and .u8 x.f0 1 = 0) : Go.bits .andNot .u8 x.f0 7 = 0 ∧ Go.bits .and .u8 x.f0 4 = 0 ∧ x.f1 = 65535 ∧ x.f2 = [] ∧ x.f3 = [] ∧ x.f4 = [] ∧ x.f5.length ≤ 255 ∧ x.f5.all sigOk = true := by
  unfold mayC at h
  rw [if_neg c] at h
  simp only [Bool.and_eq_true, decide_eq_true_eq] at h
  exact ⟨h.1, h.2.1, h.2.2.1, List.length_eq_zero_iff.mp (by omega), List.length_eq_zero_iff.mp (by omega), List.length_eq_zero_iff.mp (by omega), h.2.2.2.2.1, h.2.2.2.2.2⟩
def Hb (b : List Int) : Prop := Bytes b ∧ b.length < 140737488355328
structure Good {α : Type} (R : List Int → Int → Int → Option (α × Int × Int)) (B : List Int) (x : α) : Prop where
  full : ∀ a c, Hb (a ++ B ++ c) → R (a ++ B ++ c) (a.length : Int) 0 = some (x, (a.length : Int) + (B.length : Int), 0)
  cut : ∀ a n, n < B.length → Hb (a ++ B.take n) → ∃ y t, R (a ++ B.take n) (a.length : Int) 0 = some (y, t, 4)
def Stuck {α : Type} (R : List Int → Int → Int → Option (α × Int × Int)) : Prop := ∀ b t e, e ≠ 0 → ∃ y, R b t e = some (y, t, e)
section
variable {α β : Type} {R1 : List Int → Int → Int → Option (α × Int × Int)} {R2 : α → List Int → Int → Int → Option (β × Int × Int)} {B1 B2 : List Int} {x : α} {y : β}
theorem Stuck.bind (h1 : Stuck R1) (h2 : ∀ z, Stuck (R2 z)) : Stuck (fun b t e => (R1 b t e).bind fun r => R2 r.1 b r.2.1 r.2.2) := by
  intro b t e he
  obtain ⟨z, q⟩ := h1 b t e he
  obtain ⟨u, q2⟩ := h2 z b t e he
  exact ⟨u, by show (R1 b t e).bind _ = _; rw [q, Option.bind_some]; exact q2⟩
theorem Good.bind (h1 : Good R1 B1 x) (h2 : Good (R2 x) B2 y) (hs : ∀ z, Stuck (R2 z)) : Good (fun b t e => (R1 b t e).bind fun r => R2 r.1 b r.2.1 r.2.2) (B1 ++ B2) y := by
  refine ⟨fun a c hb => ?_, fun a n hn hb => ?_⟩
  · have e1 : a ++ (B1 ++ B2) ++ c = a ++ B1 ++ (B2 ++ c) := by simp
    have e2 : a ++ B1 ++ (B2 ++ c) = (a ++ B1) ++ B2 ++ c := by simp
    rw [e1] at hb ⊢
    have q1 := h1.full a (B2 ++ c) hb
    have q2 := h2.full (a ++ B1) c (by rw [← e2]; exact hb)
    rw [← e2, List.length_append, Int.natCast_add] at q2
    show (R1 (a ++ B1 ++ (B2 ++ c)) a.length 0).bind _ = _
    rw [q1, Option.bind_some]
    show R2 x _ ((a.length : Int) + B1.length) 0 = _
    rw [q2, List.length_append, Int.natCast_add, Int.add_assoc]
  · by_cases c : n < B1.length
    · have e : (B1 ++ B2).take n = B1.take n := by rw [List.take_append_of_le_length (by omega)]
      rw [e] at hb ⊢
      obtain ⟨z, t, q⟩ := h1.cut a n c hb
      obtain ⟨u, q2⟩ := hs z (a ++ B1.take n) t 4 (by decide)
      exact ⟨u, t, by show (R1 _ _ _).bind _ = _; rw [q, Option.bind_some]; exact q2⟩
    · have e : (B1 ++ B2).take n = B1 ++ B2.take (n - B1.length) := by rw [List.take_append, List.take_of_length_le (by omega)]
      have e1 : a ++ (B1 ++ B2.take (n - B1.length)) = a ++ B1 ++ B2.take (n - B1.length) := by simp
      rw [e, e1] at hb ⊢
      have q1 := h1.full a _ hb
      obtain ⟨z, t, q2⟩ := h2.cut (a ++ B1) (n - B1.length) (by simp only [List.length_append] at hn; omega) hb
      rw [List.length_append, Int.natCast_add] at q2
      exact ⟨z, t, by show (R1 _ _ _).bind _ = _; rw [q1, Option.bind_some]; exact q2⟩
end
theorem num_eq {b : List Int} (hb : Hb b) (s t : Int) (hs : s = 1 ∨ s = 2) (h0 : 0 ≤ t) (h1 : t ≤ b.length) : num b s t 0 = some ((getS b t s).1, t + s, (getS b t s).2) := by
  have hl := hb.2
  have hr := get_range hb.1 t s
  unfold num
  rw [if_pos rfl, ends_Get_eq 20 (by decide) b hb.1 t s hl (by omega) (by omega), Option.bind_some, if_pos ⟨hr.1, hr.2.1⟩, wrap_id (by omega) (by omega)]
theorem u16_id {n : Int} (h : okW n) : IntKind.u16.wrap n = n := by unfold okW at h; simp [IntKind.wrap, IntKind.bits, IntKind.signed]; omega
theorem word_stuck : Stuck (fun b t e => wordG b t e) := fun b t e he => ⟨_, by show wordG b t e = _; unfold wordG num; rw [if_neg he, Option.bind_some]⟩
theorem by24_stuck : Stuck (fun b t e => by24 b t e) := fun b t e he => ⟨_, by show by24 b t e = _; unfold by24; rw [if_neg he]⟩
theorem manyL_stuck {α : Type} (next : Int → Int → Option (α × Int × Int)) (n : Nat) (acc : List α) (t e : Int) (he : e ≠ 0) : manyL next n acc t e = some (acc, t, e) := by
  cases n with
  | zero => rfl
  | succ n => unfold manyL; rw [if_neg he]
section
variable {α : Type} {R : List Int → Int → Int → Option (α × Int × Int)} {Bf : α → List Int}
theorem many_stuck (R : List Int → Int → Int → Option (α × Int × Int)) (most : Int) : Stuck (fun b t e => manyG (R b) b most t e) := by
  intro b t e he
  refine ⟨[], ?_⟩
  show manyG (R b) b most t e = _
  unfold manyG num
  rw [if_neg he, Option.bind_some]
  simp only
  rw [if_pos (by omega), if_neg (fun h => he h.1)]
  rfl
end
def finC (c : S38) (t e : Int) : Option (S38 × Int × Int) := if e = 0 then (class_May.f c.f0 c.f1 c.f2 c.f3 c.f4 c.f5).bind fun m => some (c, t, if m = true then 0 else 5) else some (c, t, e)
def clsR (F : Int) (b : List Int) (t e : Int) : Option (S38 × Int × Int) := (wordG b t e).bind fun s => (manyG (ifaceG b) b 16 s.2.1 s.2.2).bind fun i => (manyG (by44 b) b 255 i.2.1 i.2.2).bind fun t => (manyG (wordG b) b 255 t.2.1 t.2.2).bind fun v => finC ⟨F, s.1, i.1, t.1, v.1, []⟩ v.2.1 v.2.2
def ifcR (F : Int) (b : List Int) (t e : Int) : Option (S38 × Int × Int) := (manyG (by66 b) b 255 t e).bind fun s => finC ⟨F, 65535, [], [], [], s.1⟩ s.2.1 s.2.2
def restR (z : Int) (b : List Int) (t e : Int) : Option (S38 × Int × Int) := if Go.bits .and .u8 (z % 256) 1 = 0 then clsR (z % 256) b t e else ifcR (z % 256) b t e
theorem classG_eq (b : List Int) (t e : Int) : classG b t e = (num b 1 t e).bind fun f => restR f.1 b f.2.1 f.2.2 := rfl
theorem finC_stuck (c : S38) : Stuck (fun _ t e => finC c t e) := fun b t e he => ⟨c, by show finC c t e = _; unfold finC; rw [if_neg he]⟩
theorem v_stuck (F s : Int) (i : List S41) (t : List S44) : Stuck (fun b t_ e => (manyG (wordG b) b 255 t_ e).bind fun v => finC ⟨F, s, i, t, v.1, []⟩ v.2.1 v.2.2) :=
  Stuck.bind (R1 := fun b t e => manyG (wordG b) b 255 t e) (R2 := fun v _ t_ e => finC ⟨F, s, i, t, v, []⟩ t_ e) (many_stuck (fun b t e => wordG b t e) 255) (fun v => finC_stuck _)
theorem t_stuck (F s : Int) (i : List S41) : Stuck (fun b t_ e => (manyG (by44 b) b 255 t_ e).bind fun t => (manyG (wordG b) b 255 t.2.1 t.2.2).bind fun v => finC ⟨F, s, i, t.1, v.1, []⟩ v.2.1 v.2.2) :=
  Stuck.bind (R1 := fun b t e => manyG (by44 b) b 255 t e) (R2 := fun t b t_ e => (manyG (wordG b) b 255 t_ e).bind fun v => finC ⟨F, s, i, t, v.1, []⟩ v.2.1 v.2.2) (many_stuck (fun b t e => by44 b t e) 255) (fun t => v_stuck F s i t)
theorem i_stuck (F s : Int) : Stuck (fun b t_ e => (manyG (ifaceG b) b 16 t_ e).bind fun i => (manyG (by44 b) b 255 i.2.1 i.2.2).bind fun t => (manyG (wordG b) b 255 t.2.1 t.2.2).bind fun v => finC ⟨F, s, i.1, t.1, v.1, []⟩ v.2.1 v.2.2) :=
  Stuck.bind (R1 := fun b t e => manyG (ifaceG b) b 16 t e) (R2 := fun i b t_ e => (manyG (by44 b) b 255 t_ e).bind fun t => (manyG (wordG b) b 255 t.2.1 t.2.2).bind fun v => finC ⟨F, s, i, t.1, v.1, []⟩ v.2.1 v.2.2) (many_stuck (fun b t e => ifaceG b t e) 16) (fun i => t_stuck F s i)
theorem clsR_stuck (F : Int) : Stuck (clsR F) :=
  Stuck.bind (R1 := fun b t e => wordG b t e) (R2 := fun s b t_ e => (manyG (ifaceG b) b 16 t_ e).bind fun i => (manyG (by44 b) b 255 i.2.1 i.2.2).bind fun t => (manyG (wordG b) b 255 t.2.1 t.2.2).bind fun v => finC ⟨F, s, i.1, t.1, v.1, []⟩ v.2.1 v.2.2) word_stuck (fun s => i_stuck F s)
theorem ifcR_stuck (F : Int) : Stuck (ifcR F) :=
  Stuck.bind (R1 := fun b t e => manyG (by66 b) b 255 t e) (R2 := fun s _ t_ e => finC ⟨F, 65535, [], [], [], s⟩ t_ e) (many_stuck (fun b t e => by66 b t e) 255) (fun s => finC_stuck _)
theorem restR_stuck (z : Int) : Stuck (restR z) := by
  intro b t e he
  unfold restR
  split
  · exact clsR_stuck _ b t e he
  · exact ifcR_stuck _ b t e he
theorem u8_one {a : Int} (h : 0 ≤ a ∧ a ≤ 255) : Go.bits .and .u8 a 1 = a % 2 := by
  have q : ∀ n : Fin 256, Go.bits .and .u8 (n.val : Int) 1 = (n.val : Int) % 2 := by decide +kernel
  have := q ⟨a.toNat, by omega⟩
  rw [show ((⟨a.toNat, by omega⟩ : Fin 256).val : Int) = a from by simp; omega] at this
  exact this
theorem isI_eq {x : S38} (h : okC x) : garderoberef08_IsIface.f x.f0 x.f1 x.f2 x.f3 x.f4 x.f5 = some (!decide (Go.bits .and .u8 x.f0 1 = 0)) := by
  unfold garderoberef08_IsIface.f
  have h0 := h.1
  rw [u8_one h0, Int.tmod_eq_emod_of_nonneg h0.1]
  congr 1
  by_cases c : x.f0 % 2 = 0
  · rw [c]; simp
  · have : x.f0 % 2 = 1 := by omega
    rw [this]; rfl
theorem rd44_eq {l : List S44} {i : Nat} (h : i < l.length) : rd_T44 l (i : Int) = l[i] := by simp [rd_T44, h]
theorem rd41_eq {l : List S41} {i : Nat} (h : i < l.length) : rd_T41 l (i : Int) = l[i] := by simp [rd_T41, h]
theorem rd66_eq {l : List S66} {i : Nat} (h : i < l.length) : rd_T66 l (i : Int) = l[i] := by simp [rd_T66, h]
theorem rd38_eq {l : List S38} {i : Nat} (h : i < l.length) : rd_T38 l (i : Int) = l[i] := by simp [rd_T38, h]
section
variable (f0 f1 : Int) (l2 : List S41) (l3 : List S44) (l4 : List Int) (l5 : List S66)
theorem ref8_May_l0 (hl : l5.length ≤ 255) : ∀ (d k i : Nat), i + d = l5.length → 40 + d ≤ k → garderoberef08_May.l0 k (i : Int) f0 f1 l2 l3 l4 l5 = some ((l5.drop i).all sigOk)
  | 0, k, i, h, hk => by
    obtain ⟨k, rfl⟩ : ∃ m, k = m + 1 := ⟨k - 1, by omega⟩
    simp only [garderoberef08_May.l0]
    rw [if_neg (by omega), List.drop_eq_nil_of_le (by omega)]
    simp
  | d + 1, k, i, h, hk => by
    obtain ⟨k, rfl⟩ : ∃ m, k = m + 1 := ⟨k - 1, by omega⟩
    have h1 : i < l5.length := by omega
    simp only [garderoberef08_May.l0]
    rw [if_pos (by omega), if_pos (by omega), rd66_eq h1, ref4_MaySig_eq k (by omega), Option.bind_some, List.drop_eq_getElem_cons h1, List.all_cons]
    have e : maySig (l5[i].f0.map toP) (l5[i].f1.f0, l5[i].f1.f1) = sigOk l5[i] := rfl
    rw [e]
    cases hm : sigOk l5[i] with
    | true =>
      rw [if_pos rfl, wrap_id (by omega) (by omega), show ((i : Int) + 1) = ((i + 1 : Nat) : Int) from by omega, ref8_May_l0 hl d k (i + 1) (by omega) (by omega)]
      simp
    | false => simp
theorem ref8_May_l2 (hl : l3.length ≤ 255) : ∀ (d k i : Nat), i + d = l3.length → 40 + d ≤ k → garderoberef08_May.l2 k (i : Int) f0 f1 l2 l3 l4 l5 = some ((l3.drop i).all fun t => mayT (toP t))
  | 0, k, i, h, hk => by
    obtain ⟨k, rfl⟩ : ∃ m, k = m + 1 := ⟨k - 1, by omega⟩
    simp only [garderoberef08_May.l2]
    rw [if_neg (by omega), List.drop_eq_nil_of_le (by omega)]
    simp
  | d + 1, k, i, h, hk => by
    obtain ⟨k, rfl⟩ : ∃ m, k = m + 1 := ⟨k - 1, by omega⟩
    have h1 : i < l3.length := by omega
    simp only [garderoberef08_May.l2]
    rw [if_pos (by omega), if_pos (by omega), rd44_eq h1, ref4_May_eq, Option.bind_some, List.drop_eq_getElem_cons h1, List.all_cons]
    have e : mayT (l3[i].f0, l3[i].f1) = mayT (toP l3[i]) := rfl
    rw [e]
    cases hm : mayT (toP l3[i]) with
    | true =>
      rw [if_pos rfl, wrap_id (by omega) (by omega), show ((i : Int) + 1) = ((i + 1 : Nat) : Int) from by omega, ref8_May_l2 hl d k (i + 1) (by omega) (by omega)]
      simp
    | false => simp
theorem ref8_May_l1 (hl : l2.length ≤ 255) (hl3 : l3.length ≤ 255) : ∀ (d k i : Nat), i + d = l2.length → 400 + d ≤ k → garderoberef08_May.l1 k (i : Int) f0 f1 l2 l3 l4 l5 = some ((l2.drop i).all (fun t => decide (t.f1.length ≤ 255)) && l3.all fun t => mayT (toP t))
  | 0, k, i, h, hk => by
    obtain ⟨k, rfl⟩ : ∃ m, k = m + 1 := ⟨k - 1, by omega⟩
    simp only [garderoberef08_May.l1]
    have q := ref8_May_l2 f0 f1 l2 l3 l4 l5 hl3 l3.length k 0 (by omega) (by omega)
    rw [if_neg (by omega), List.drop_eq_nil_of_le (by omega), show (0 : Int) = ((0 : Nat) : Int) from rfl, q]
    simp
  | d + 1, k, i, h, hk => by
    obtain ⟨k, rfl⟩ : ∃ m, k = m + 1 := ⟨k - 1, by omega⟩
    have h1 : i < l2.length := by omega
    simp only [garderoberef08_May.l1]
    rw [if_pos (by omega), if_pos (by omega), rd41_eq h1, List.drop_eq_getElem_cons h1, List.all_cons]
    by_cases c : l2[i].f1.length ≤ 255
    · rw [if_neg (by omega), wrap_id (by omega) (by omega), show ((i : Int) + 1) = ((i + 1 : Nat) : Int) from by omega, ref8_May_l1 hl hl3 d k (i + 1) (by omega) (by omega), decide_eq_true c, Bool.true_and]
    · rw [if_pos (by omega), decide_eq_false c, Bool.false_and, Bool.false_and]
end
theorem ref8_May_eq (k : Nat) (hk : 1000 ≤ k) (x : S38) (h : okC x) : garderoberef08_May.f k x.f0 x.f1 x.f2 x.f3 x.f4 x.f5 = some (mayC x) := by
  obtain ⟨k, rfl⟩ : ∃ m, k = m + 3 := ⟨k - 3, by omega⟩
  have hi := isI_eq h
  obtain ⟨_, _, _, _, _, h5, hl⟩ := h
  have j0t : garderoberef08_May.j0 (k + 3) true x.f0 x.f1 x.f2 x.f3 x.f4 x.f5 = some false := by simp [garderoberef08_May.j0]
  have j1t : garderoberef08_May.j1 (k + 2) true x.f0 x.f1 x.f2 x.f3 x.f4 x.f5 = some false := by simp [garderoberef08_May.j1]
  unfold garderoberef08_May.f mayC
  by_cases c1 : Go.bits .andNot .u8 x.f0 7 = 0
  rotate_left
  · rw [if_neg c1, j0t, decide_eq_false c1, Bool.false_and]
  rw [if_pos c1, decide_eq_true c1, Bool.true_and]
  by_cases d3 : x.f3.length ≤ 255
  rotate_left
  · rw [if_pos (by omega), j0t]
    congr 1
    by_cases c2 : Go.bits .and .u8 x.f0 1 = 0
    · rw [if_pos c2, decide_eq_false d3]; simp
    · rw [if_neg c2, show decide (x.f2.length + x.f3.length + x.f4.length = 0) = false from decide_eq_false (by omega)]; simp
  rw [if_neg (by omega)]
  by_cases d4 : x.f4.length ≤ 255
  rotate_left
  · rw [if_pos (by omega), j0t]
    congr 1
    by_cases c2 : Go.bits .and .u8 x.f0 1 = 0
    · rw [if_pos c2, decide_eq_false d4]; simp
    · rw [if_neg c2, show decide (x.f2.length + x.f3.length + x.f4.length = 0) = false from decide_eq_false (by omega)]; simp
  rw [if_neg (by omega)]
  by_cases d5 : x.f5.length ≤ 255
  rotate_left
  · rw [if_pos (by omega), j0t]
    congr 1
    by_cases c2 : Go.bits .and .u8 x.f0 1 = 0
    · rw [if_pos c2, show decide (x.f5.length = 0) = false from decide_eq_false (by omega)]; simp
    · rw [if_neg c2, decide_eq_false d5]; simp
  rw [if_neg (by omega)]
  by_cases d2 : x.f2.length ≤ 16
  rotate_left
  · rw [show decide ((x.f2.length : Int) > 16) = true from decide_eq_true (by omega), j0t]
    congr 1
    by_cases c2 : Go.bits .and .u8 x.f0 1 = 0
    · rw [if_pos c2, decide_eq_false d2]; simp
    · rw [if_neg c2, show decide (x.f2.length + x.f3.length + x.f4.length = 0) = false from decide_eq_false (by omega)]; simp
  rw [show decide ((x.f2.length : Int) > 16) = false from decide_eq_false (by omega)]
  simp only [garderoberef08_May.j0]
  rw [if_neg (by decide), hi, Option.bind_some]
  by_cases c2 : Go.bits .and .u8 x.f0 1 = 0
  · rw [decide_eq_true c2, if_neg (by decide), if_pos c2]
    by_cases c3 : x.f5.length = 0
    · rw [if_neg (by omega), show (0 : Int) = ((0 : Nat) : Int) from rfl, ref8_May_l1 _ _ _ _ _ _ (by omega) d3 x.f2.length (k + 2) 0 (by omega) (by omega), decide_eq_true c3, decide_eq_true d2, decide_eq_true d4, decide_eq_true d3]
      simp only [Bool.true_and, List.drop_zero]
      rw [Bool.and_comm]
    · rw [if_pos (by omega), decide_eq_false c3, Bool.false_and]
  · rw [decide_eq_false c2, if_pos (by decide), if_neg c2]
    by_cases c3 : Go.bits .and .u8 x.f0 4 = 0
    rotate_left
    · rw [if_neg c3, j1t, decide_eq_false c3, Bool.false_and]
    rw [if_pos c3, decide_eq_true c3, Bool.true_and]
    by_cases c4 : x.f1 = 65535
    rotate_left
    · rw [if_neg c4, j1t, decide_eq_false c4, Bool.false_and]
    rw [if_pos c4, decide_eq_true c4, Bool.true_and]
    have hw : wrap64 (wrap64 ((x.f2.length : Int) + (x.f3.length : Int)) + (x.f4.length : Int)) = (x.f2.length : Int) + (x.f3.length : Int) + (x.f4.length : Int) := by
      rw [wrap_id (n := (x.f2.length : Int) + (x.f3.length : Int)) (by omega) (by omega), wrap_id (by omega) (by omega)]
    rw [hw]
    by_cases c5 : x.f2.length + x.f3.length + x.f4.length = 0
    rotate_left
    · rw [show decide ((x.f2.length : Int) + (x.f3.length : Int) + (x.f4.length : Int) > 0) = true from decide_eq_true (by omega), j1t, decide_eq_false c5, Bool.false_and]
    rw [show decide ((x.f2.length : Int) + (x.f3.length : Int) + (x.f4.length : Int) > 0) = false from decide_eq_false (by omega), decide_eq_true c5, decide_eq_true d5]
    simp only [garderoberef08_May.j1, Bool.true_and]
    rw [if_neg (by decide), show (0 : Int) = ((0 : Nat) : Int) from rfl, ref8_May_l0 _ _ _ _ _ _ d5 x.f5.length (k + 1) 0 (by omega) (by omega), List.drop_zero]
theorem ref8_word_eq {n : Int} (h : okW n) : garderoberef08_word.f n = some (wB n) := by
  unfold garderoberef08_word.f
  have h1 := h
  unfold okW at h1
  have e1 : Int.tdiv n 256 = n / 256 := Int.tdiv_eq_ediv_of_nonneg h1.1
  have e2 : Int.tmod n 256 = n % 256 := Int.tmod_eq_emod_of_nonneg h1.1
  rw [e1, e2, u16_id ⟨by omega, by omega⟩, Int.emod_emod_of_dvd n (Int.dvd_refl 256)]
  rfl
theorem ref8_row_eq (k : Nat) (hk : 20 ≤ k) {m : List Int} (hm : m.length ≤ 255) : garderoberef02_PutRow.f k m 1 = some ([(m.length : Int)] ++ m, 0) := by
  rw [ref_PutRow_eq k hk m 1 (by omega)]
  unfold putRowS
  rw [if_neg (by omega), if_neg (by omega)]
  unfold be
  rw [if_pos rfl, Int.emod_eq_of_lt (by omega) (by omega)]
section
variable (f0 f1 : Int) (l2 : List S41) (l3 : List S44) (l4 : List Int) (l5 : List S66)
theorem ref8_bytes_l0 (hl : l5.length ≤ 255) (hs : ∀ s ∈ l5, okSig s) (hm : l5.all sigOk = true) : ∀ (d k i : Nat) (acc : List Int), i + d = l5.length → 70 + d ≤ k → acc.length + 49 * d ≤ 1000000 → garderoberef08_bytes.l0 k acc (i : Int) f0 f1 l2 l3 l4 l5 = some (acc ++ (l5.drop i).flatMap sigB)
  | 0, k, i, acc, h, hk, _ => by
    obtain ⟨k, rfl⟩ : ∃ m, k = m + 1 := ⟨k - 1, by omega⟩
    simp only [garderoberef08_bytes.l0]
    rw [if_neg (by omega), List.drop_eq_nil_of_le (by omega)]
    simp
  | d + 1, k, i, acc, h, hk, ha => by
    obtain ⟨k, rfl⟩ : ∃ m, k = m + 1 := ⟨k - 1, by omega⟩
    have h1 : i < l5.length := by omega
    have hi := hs l5[i] (List.getElem_mem h1)
    have ho := List.all_eq_true.mp hm l5[i] (List.getElem_mem h1)
    have hlen := sigB_len ho
    have e : garderoberef04_PutSig.f k l5[i].f0 l5[i].f1.f0 l5[i].f1.f1 = some (sigB l5[i], 0) := by
      rw [ref4_PutSig_eq k (by omega) l5[i].f0 (fun t ht => by have := hi.1 t ht; unfold okTy okT toP at this; exact this.2.2) _ _ (by have := hi.2; unfold okTy okT toP at this; exact this.2.2)]
      unfold putSigS
      rw [if_pos (show maySig (l5[i].f0.map toP) (l5[i].f1.f0, l5[i].f1.f1) = true from ho)]
      rfl
    simp only [garderoberef08_bytes.l0]
    rw [if_pos (by omega), if_pos (by omega), rd66_eq h1, e, Option.bind_some, if_pos (by simp only; omega), wrap_id (by omega) (by omega), show ((i : Int) + 1) = ((i + 1 : Nat) : Int) from by omega, ref8_bytes_l0 hl hs hm d k (i + 1) (acc ++ sigB l5[i]) (by omega) (by omega) (by simp only [List.length_append]; omega), List.drop_eq_getElem_cons h1, List.flatMap_cons, List.append_assoc]
theorem ref8_bytes_l3 (hl : l4.length ≤ 255) (hs : ∀ n ∈ l4, okW n) : ∀ (d k i : Nat) (acc : List Int), i + d = l4.length → 70 + d ≤ k → acc.length + 2 * d ≤ 1000000 → garderoberef08_bytes.l3 k acc (i : Int) f0 f1 l2 l3 l4 l5 = some (acc ++ (l4.drop i).flatMap wB)
  | 0, k, i, acc, h, hk, _ => by
    obtain ⟨k, rfl⟩ : ∃ m, k = m + 1 := ⟨k - 1, by omega⟩
    simp only [garderoberef08_bytes.l3]
    rw [if_neg (by omega), List.drop_eq_nil_of_le (by omega)]
    simp
  | d + 1, k, i, acc, h, hk, ha => by
    obtain ⟨k, rfl⟩ : ∃ m, k = m + 1 := ⟨k - 1, by omega⟩
    have h1 : i < l4.length := by omega
    have e1 : rd l4 (i : Int) = l4[i] := by simp [rd, h1]
    have e2 : (wB l4[i]).length = 2 := rfl
    simp only [garderoberef08_bytes.l3]
    rw [if_pos (by omega), if_pos (by omega), e1, ref8_word_eq (hs _ (List.getElem_mem h1)), Option.bind_some, if_pos (by omega), wrap_id (by omega) (by omega), show ((i : Int) + 1) = ((i + 1 : Nat) : Int) from by omega, ref8_bytes_l3 hl hs d k (i + 1) (acc ++ wB l4[i]) (by omega) (by omega) (by simp only [List.length_append]; omega), List.drop_eq_getElem_cons h1, List.flatMap_cons, List.append_assoc]
theorem ref8_bytes_l2 (hl : l3.length ≤ 255) (hl4 : l4.length ≤ 255) (hs : ∀ t ∈ l3, okTy t) (hm : l3.all (fun t => mayT (toP t)) = true) (hs4 : ∀ n ∈ l4, okW n) : ∀ (d k i : Nat) (acc : List Int), i + d = l3.length → 400 + d ≤ k → acc.length + 3 * d ≤ 900000 → garderoberef08_bytes.l2 k acc (i : Int) f0 f1 l2 l3 l4 l5 = some (acc ++ ((l3.drop i).flatMap tyB ++ rowB wB l4))
  | 0, k, i, acc, h, hk, ha => by
    obtain ⟨k, rfl⟩ : ∃ m, k = m + 1 := ⟨k - 1, by omega⟩
    simp only [garderoberef08_bytes.l2]
    rw [if_neg (by omega), if_pos (by omega), Int.emod_eq_of_lt (by omega) (by omega), show (0 : Int) = ((0 : Nat) : Int) from rfl, ref8_bytes_l3 f0 f1 l2 l3 l4 l5 hl4 hs4 l4.length k 0 (acc ++ [(l4.length : Int)]) (by omega) (by omega) (by simp only [List.length_append, List.length_singleton]; omega), List.drop_eq_nil_of_le (by omega : l3.length ≤ i)]
    simp [rowB]
  | d + 1, k, i, acc, h, hk, ha => by
    obtain ⟨k, rfl⟩ : ∃ m, k = m + 1 := ⟨k - 1, by omega⟩
    have h1 : i < l3.length := by omega
    have ht := hs l3[i] (List.getElem_mem h1)
    have hmm := List.all_eq_true.mp hm l3[i] (List.getElem_mem h1)
    have hlen := tyB_len l3[i]
    have e : garderoberef04_Put.f l3[i].f0 l3[i].f1 = some (tyB l3[i], 0) := by
      unfold okTy okT toP at ht
      rw [ref4_Put_eq _ _ ht.2.2]
      unfold putT
      rw [if_pos (show mayT (l3[i].f0, l3[i].f1) = true from hmm)]
      rfl
    simp only [garderoberef08_bytes.l2]
    rw [if_pos (by omega), if_pos (by omega), rd44_eq h1, e, Option.bind_some, if_pos (by simp only; omega), wrap_id (by omega) (by omega), show ((i : Int) + 1) = ((i + 1 : Nat) : Int) from by omega, ref8_bytes_l2 hl hl4 hs hm hs4 d k (i + 1) (acc ++ tyB l3[i]) (by omega) (by omega) (by simp only [List.length_append]; omega), List.drop_eq_getElem_cons h1, List.flatMap_cons]
    simp only [List.append_assoc]
theorem ref8_bytes_l1 (hl : l2.length ≤ 16) (hl3 : l3.length ≤ 255) (hl4 : l4.length ≤ 255) (hs2 : ∀ i ∈ l2, okIf i) (hm2 : l2.all (fun i => decide (i.f1.length ≤ 255)) = true) (hs : ∀ t ∈ l3, okTy t) (hm : l3.all (fun t => mayT (toP t)) = true) (hs4 : ∀ n ∈ l4, okW n) : ∀ (d k i : Nat) (acc : List Int), i + d = l2.length → 800 + d ≤ k → acc.length + 258 * d ≤ 800000 → garderoberef08_bytes.l1 k acc (i : Int) f0 f1 l2 l3 l4 l5 = some (acc ++ ((l2.drop i).flatMap ifB ++ (rowB tyB l3 ++ rowB wB l4)))
  | 0, k, i, acc, h, hk, ha => by
    obtain ⟨k, rfl⟩ : ∃ m, k = m + 1 := ⟨k - 1, by omega⟩
    simp only [garderoberef08_bytes.l1]
    rw [if_neg (by omega), if_pos (by omega), Int.emod_eq_of_lt (by omega) (by omega), show (0 : Int) = ((0 : Nat) : Int) from rfl, ref8_bytes_l2 f0 f1 l2 l3 l4 l5 hl3 hl4 hs hm hs4 l3.length k 0 (acc ++ [(l3.length : Int)]) (by omega) (by omega) (by simp only [List.length_append, List.length_singleton]; omega), List.drop_eq_nil_of_le (by omega : l2.length ≤ i)]
    simp [rowB]
  | d + 1, k, i, acc, h, hk, ha => by
    obtain ⟨k, rfl⟩ : ∃ m, k = m + 1 := ⟨k - 1, by omega⟩
    have h1 : i < l2.length := by omega
    have ht := hs2 l2[i] (List.getElem_mem h1)
    have hmm := List.all_eq_true.mp hm2 l2[i] (List.getElem_mem h1)
    simp only [decide_eq_true_eq] at hmm
    have e2 : (wB l2[i].f0).length = 2 := rfl
    simp only [garderoberef08_bytes.l1]
    rw [if_pos (by omega), if_pos (by omega), rd41_eq h1, ref8_word_eq ht.1, Option.bind_some, if_pos (by omega), Option.bind_some, ref8_row_eq k (by omega) hmm, Option.bind_some, if_pos (by simp only [List.length_append, List.length_singleton]; omega), wrap_id (by omega) (by omega), show ((i : Int) + 1) = ((i + 1 : Nat) : Int) from by omega, ref8_bytes_l1 hl hl3 hl4 hs2 hm2 hs hm hs4 d k (i + 1) (acc ++ wB l2[i].f0 ++ ([(l2[i].f1.length : Int)] ++ l2[i].f1)) (by omega) (by omega) (by simp only [List.length_append, List.length_singleton]; omega), List.drop_eq_getElem_cons h1, List.flatMap_cons]
    simp only [ifB, List.append_assoc]
end
theorem ref8_bytes_eq (k : Nat) (hk : 1000 ≤ k) (x : S38) (h : okC x) (hm : mayC x = true) : garderoberef08_bytes.f k x.f0 x.f1 x.f2 x.f3 x.f4 x.f5 = some (bytesC x) := by
  have hi := isI_eq h
  obtain ⟨_, h1, h2, h3, h4, h5, _⟩ := h
  unfold garderoberef08_bytes.f bytesC
  rw [Option.bind_some, hi, Option.bind_some]
  by_cases c : Go.bits .and .u8 x.f0 1 = 0
  · obtain ⟨_, m5, m2, m4, m3, ha, hi_⟩ := may_cls hm c
    rw [decide_eq_true c, if_neg (by decide), if_pos c, ref8_word_eq h1, Option.bind_some, if_pos (by simp [wB]), Option.bind_some, if_pos (by simp [wB]), Int.emod_eq_of_lt (by omega) (by omega), show (0 : Int) = ((0 : Nat) : Int) from rfl, ref8_bytes_l1 _ _ _ _ _ _ m2 m3 m4 h2 hi_ h3 ha h4 x.f2.length k 0 ([x.f0] ++ wB x.f1 ++ [(x.f2.length : Int)]) (by omega) (by omega) (by simp [wB]; omega)]
    simp [rowB]
  · obtain ⟨_, _, m1, m2, m3, m4, m5, ha⟩ := may_ifc hm c
    rw [decide_eq_false c, if_pos (by decide), if_neg c, if_pos (by simp), Int.emod_eq_of_lt (by omega) (by omega), show (0 : Int) = ((0 : Nat) : Int) from rfl, ref8_bytes_l0 _ _ _ _ _ _ m5 h5 ha x.f5.length k 0 ([x.f0] ++ [(x.f5.length : Int)]) (by omega) (by omega) (by simp; omega)]
    simp [rowB]
def seg (b : List Int) (t u : Int) : List Int := (b.drop t.toNat).take (u - t).toNat
theorem seg_append (b : List Int) {t u v : Int} (h0 : 0 ≤ t) (h1 : t ≤ u) (h2 : u ≤ v) : seg b t u ++ seg b u v = seg b t v := by
  unfold seg
  have e1 : (v - t).toNat = (u - t).toNat + (v - u).toNat := by omega
  have e2 : u.toNat = t.toNat + (u - t).toNat := by omega
  rw [e1, take_drop_add, ← e2]
def Back {α : Type} (R : List Int → Int → Int → Option (α × Int × Int)) (Q : List Int → α → Prop) : Prop :=
  ∀ b t, Hb b → 0 ≤ t → t ≤ (b.length : Int) → ∃ x u e, R b t 0 = some (x, u, e) ∧ (e = 0 → t ≤ u ∧ u ≤ (b.length : Int) ∧ Q (seg b t u) x)
theorem Back.bind {α β : Type} {R1 : List Int → Int → Int → Option (α × Int × Int)} {R2 : α → List Int → Int → Int → Option (β × Int × Int)} {Q1 : List Int → α → Prop} {Q2 : α → List Int → β → Prop} {Q : List Int → β → Prop}
    (h1 : Back R1 Q1) (h2 : ∀ s x, Q1 s x → Back (R2 x) (Q2 x)) (hs : ∀ z, Stuck (R2 z)) (hq : ∀ s1 x s2 y, Q1 s1 x → Q2 x s2 y → Q (s1 ++ s2) y) : Back (fun b t e => (R1 b t e).bind fun r => R2 r.1 b r.2.1 r.2.2) Q := by
  intro b t hb h0 hl
  obtain ⟨x, u, e, q1, k1⟩ := h1 b t hb h0 hl
  by_cases c : e = 0
  · subst c
    obtain ⟨hu, hul, hx⟩ := k1 rfl
    obtain ⟨y, v, e', q2, k2⟩ := h2 _ x hx b u hb (by omega) hul
    refine ⟨y, v, e', ?_, fun he => ?_⟩
    · show (R1 b t 0).bind _ = _
      rw [q1, Option.bind_some]
      exact q2
    · obtain ⟨hv, hvl, hy⟩ := k2 he
      refine ⟨by omega, hvl, ?_⟩
      rw [← seg_append b h0 hu hv]
      exact hq _ x _ y hx hy
  · obtain ⟨z, q2⟩ := hs x b u e c
    refine ⟨z, u, e, ?_, fun he => absurd he c⟩
    show (R1 b t 0).bind _ = _
    rw [q1, Option.bind_some]
    exact q2
theorem Back.imp {α : Type} {R : List Int → Int → Int → Option (α × Int × Int)} {Q Q' : List Int → α → Prop} (h : Back R Q) (hq : ∀ s x, Q s x → Q' s x) : Back R Q' := by
  intro b t hb h0 hl
  obtain ⟨x, u, e, q, k⟩ := h b t hb h0 hl
  exact ⟨x, u, e, q, fun he => ⟨(k he).1, (k he).2.1, hq _ _ (k he).2.2⟩⟩
theorem num_back : Back (fun b t e => num b 1 t e) (fun s n => (0 ≤ n ∧ n ≤ 255) ∧ s = [n]) := by
  intro b t hb h0 hl
  refine ⟨_, _, _, num_eq hb 1 t (.inl rfl) h0 hl, fun he => ?_⟩
  have hp := get_place (s := 1) (by decide) he
  have hr := get_range hb.1 t 1
  obtain ⟨x, e1, e2⟩ := get1 he
  refine ⟨by omega, by omega, ⟨hr.1, hr.2.2.1 rfl⟩, ?_⟩
  unfold seg
  rw [show (t + 1 - t).toNat = 1 from by omega, e1, e2]
theorem word_back : Back (fun b t e => wordG b t e) (fun s n => okW n ∧ s = wB n) := by
  intro b t hb h0 hl
  refine ⟨_, _, _, show wordG b t 0 = _ by unfold wordG; rw [num_eq hb 2 t (.inr rfl) h0 hl, Option.bind_some], fun he => ?_⟩
  have hp := get_place (s := 2) (by decide) he
  obtain ⟨x, y, e1, e2⟩ := get2 he
  have hx := mem_take_drop hb.1 (a := t.toNat) (n := 2) (x := x) (by rw [e1]; simp)
  have hy := mem_take_drop hb.1 (a := t.toNat) (n := 2) (x := y) (by rw [e1]; simp)
  simp only
  have hw : okW (getS b t 2).1 := by rw [e2]; unfold okW; omega
  rw [u16_id hw]
  refine ⟨by omega, by omega, hw, ?_⟩
  unfold seg wB
  rw [show (t + 2 - t).toNat = 2 from by omega, e1, e2, show (256 * x + y) / 256 % 256 = x from by omega, show (256 * x + y) % 256 = y from by omega]
theorem by24_back : Back (fun b t e => by24 b t e) (fun s m => (Bytes m ∧ m.length ≤ 255) ∧ s = [(m.length : Int)] ++ m) := by
  intro b t hb h0 hl
  have hl2 := hb.2
  refine ⟨_, _, _, show by24 b t 0 = _ by unfold by24; rw [if_pos rfl, ends_GetRow_eq 20 (by decide) b hb.1 t 1 hb.2 (by omega), Option.bind_some], fun he => ?_⟩
  rw [if_pos he]
  unfold getRowS at he ⊢
  rw [if_neg (by omega)] at he ⊢
  by_cases c1 : (getS b t 1).2 = 0
  · rw [if_pos c1] at he ⊢
    by_cases c2 : (partS b (t + 1) (getS b t 1).1).2 = 0
    · rw [if_pos c2]
      have hp := get_place (s := 1) (by decide) c1
      have hr := get_range hb.1 t 1
      obtain ⟨x, e1, e2⟩ := get1 c1
      have pl := part_length c2
      have pb := part_bytes hb.1 (t + 1) (getS b t 1).1
      simp only
      refine ⟨by omega, by omega, ⟨pb, by have := hr.2.2.1 rfl; omega⟩, ?_⟩
      have e3 : ((partS b (t + 1) (getS b t 1).1).1.length : Int) = (getS b t 1).1 := by omega
      rw [e3, pl.2.2.2.1, ← seg_append b (u := t + 1) h0 (by omega) (by omega)]
      unfold seg
      rw [show (t + 1 - t).toNat = 1 from by omega, e1, e2, show (t + 1 + x - (t + 1)).toNat = x.toNat from by omega]
    · rw [if_neg c2] at he
      exact absurd he c2
  · rw [if_neg c1] at he
    exact absurd he c1
theorem by44_back : Back (fun b t e => by44 b t e) (fun s x => (mayT (toP x) = true ∧ okTy x) ∧ s = tyB x) := by
  intro b t hb h0 hl
  have hl2 := hb.2
  refine ⟨_, _, _, show by44 b t 0 = _ by unfold by44; rw [if_pos rfl, types_Get_eq 20 (by decide) b hb.1 t hb.2 (by omega), Option.bind_some], fun he => ?_⟩
  simp only at he ⊢
  rw [if_pos he]
  have p := getT_place he
  obtain ⟨q1, q2, q3, q4⟩ := getT_back hb.1 he
  exact ⟨by omega, by omega, ⟨q1, ⟨by show 0 ≤ (getT b t).1.1; omega, by show (getT b t).1.1 ≤ 255; omega, q2, q3⟩⟩, q4.symm⟩
theorem ok_of_may {t : Ty} (hm : mayT t = true) (h : 0 ≤ t.2 ∧ t.2 ≤ 65535) : okT t := by
  have hr := ofS_range t.1
  simp only [mayT, Bool.or_eq_true, Bool.and_eq_true, beq_iff_eq] at hm
  exact ⟨by omega, by omega, h.1, h.2⟩
theorem by66_back : Back (fun b t e => by66 b t e) (fun s x => (sigOk x = true ∧ okSig x) ∧ s = sigB x) := by
  intro b t hb h0 hl
  have hl2 := hb.2
  refine ⟨_, _, _, show by66 b t 0 = _ by unfold by66; rw [if_pos rfl, types_GetSig_eq 60 (by decide) b hb.1 t hb.2 (by omega), Option.bind_some], fun he => ?_⟩
  simp only at he ⊢
  rw [if_pos he]
  have p := getSig_place he
  obtain ⟨q1, q2, q3, q4⟩ := getSig_back_at hb.1 he
  have hq := q1
  unfold maySig at hq
  simp only [Bool.and_eq_true, Bool.or_eq_true, beq_iff_eq] at hq
  refine ⟨by omega, by omega, ⟨?_, ?_, ?_⟩, ?_⟩
  · unfold sigOk
    rw [map_toP_ofP]
    exact q1
  · intro s hs
    obtain ⟨u, hu, rfl⟩ := List.mem_map.mp hs
    exact ok_of_may (List.all_eq_true.mp hq.2 u hu) (q3 u hu)
  · rcases hq.1.1 with hz | hz
    · show okT (getSigS b t).2.1
      rw [hz]
      unfold okT
      simp
    · exact ok_of_may hz q2
  · unfold sigB
    rw [map_toP_ofP]
    exact q4.symm
theorem iface_back : Back (fun b t e => ifaceG b t e) (fun s x => (okIf x ∧ x.f1.length ≤ 255) ∧ s = ifB x) := by
  refine Back.bind (R1 := fun b t e => wordG b t e) (R2 := fun r b t e => (by24 b t e).bind fun m => some ((⟨r, m.1⟩ : S41), m.2.1, m.2.2)) (Q2 := fun r s x => x.f0 = r ∧ (Bytes x.f1 ∧ x.f1.length ≤ 255) ∧ s = [(x.f1.length : Int)] ++ x.f1) word_back (fun s r hr => ?_) (fun r => Stuck.bind (R1 := fun b t e => by24 b t e) (R2 := fun m b t e => some ((⟨r, m⟩ : S41), t, e)) by24_stuck (fun m b t e _ => ⟨_, rfl⟩)) ?_
  · intro b t hb h0 hl
    obtain ⟨m, u, e, q, k⟩ := by24_back b t hb h0 hl
    refine ⟨⟨r, m⟩, u, e, ?_, fun he => ⟨(k he).1, (k he).2.1, rfl, (k he).2.2⟩⟩
    show (by24 b t 0).bind _ = _
    rw [show by24 b t 0 = _ from q, Option.bind_some]
  · rintro s1 r s2 y ⟨h1, rfl⟩ ⟨h2, h3, rfl⟩
    subst h2
    exact ⟨⟨⟨h1, h3.1⟩, h3.2⟩, rfl⟩
section
variable {α : Type} {R : List Int → Int → Int → Option (α × Int × Int)} {Bf : α → List Int} {P : α → Prop}
theorem manyL_back (h : Back R (fun s x => P x ∧ s = Bf x)) {b : List Int} (hb : Hb b) : ∀ (n : Nat) (acc : List α) (t : Int), 0 ≤ t → t ≤ (b.length : Int) → ∃ ys u e, manyL (R b) n acc t 0 = some (acc ++ ys, u, e) ∧ (e = 0 → ys.length = n ∧ t ≤ u ∧ u ≤ (b.length : Int) ∧ (∀ y ∈ ys, P y) ∧ ys.flatMap Bf = seg b t u)
  | 0, acc, t, h0, hl => ⟨[], t, 0, by simp [manyL], fun _ => ⟨rfl, Int.le_refl _, hl, by simp, by unfold seg; simp⟩⟩
  | n + 1, acc, t, h0, hl => by
    obtain ⟨x, u, e, q, k⟩ := h b t hb h0 hl
    unfold manyL
    rw [if_pos rfl, q, Option.bind_some]
    by_cases c : e = 0
    · subst c
      obtain ⟨hu, hul, hx, hs⟩ := k rfl
      obtain ⟨ys, v, e', q2, k2⟩ := manyL_back h hb n (acc ++ [x]) u (by omega) hul
      refine ⟨x :: ys, v, e', ?_, fun he => ?_⟩
      · show manyL (R b) n (acc ++ [x]) u 0 = _
        rw [q2]
        simp
      · obtain ⟨l1, l2, l3, l4, l5⟩ := k2 he
        refine ⟨by simp [l1], by omega, l3, ?_, ?_⟩
        · intro y hy
          rcases List.mem_cons.mp hy with rfl | hy
          · exact hx
          · exact l4 y hy
        · rw [List.flatMap_cons, l5, ← hs, seg_append b h0 hu l2]
    · exact ⟨[x], u, e, manyL_stuck _ _ _ _ _ c, fun he => absurd he c⟩
theorem many_back (h : Back R (fun s x => P x ∧ s = Bf x)) (most : Int) : Back (fun b t e => manyG (R b) b most t e) (fun s xs => (xs.length ≤ 255 ∧ (xs.length : Int) ≤ most ∧ ∀ x ∈ xs, P x) ∧ s = rowB Bf xs) := by
  intro b t hb h0 hl
  have hg : ∀ M T E, num b 1 t 0 = some (M, T, E) → manyG (R b) b most t 0 = (if 0 ≤ M ∧ M ≤ 255 then manyL (R b) M.toNat [] T (if E = 0 ∧ M > most then 3 else E) else none) := by
    intro M T E q
    unfold manyG
    rw [q, Option.bind_some]
  obtain ⟨n, u, e, q, k⟩ := num_back b t hb h0 hl
  have q' : num b 1 t 0 = some (n, u, e) := q
  by_cases c : e = 0
  · subst c
    obtain ⟨hu, hul, hn, hs⟩ := k rfl
    by_cases c2 : n > most
    · refine ⟨[], u, 3, ?_, fun he => absurd he (by decide)⟩
      show manyG (R b) b most t 0 = _
      rw [hg _ _ _ q', if_pos hn, if_pos ⟨rfl, c2⟩]
      exact manyL_stuck _ _ _ _ _ (by decide)
    · obtain ⟨ys, v, e', q2, k2⟩ := manyL_back h hb n.toNat [] u (by omega) hul
      refine ⟨ys, v, e', ?_, fun he => ?_⟩
      · show manyG (R b) b most t 0 = _
        rw [hg _ _ _ q', if_pos hn, if_neg (fun h_ => c2 h_.2), q2]
        rfl
      · obtain ⟨l1, l2, l3, l4, l5⟩ := k2 he
        refine ⟨by omega, l3, ⟨by omega, by omega, l4⟩, ?_⟩
        rw [← seg_append b h0 hu l2, hs]
        unfold rowB
        rw [l5, show ((ys.length : Nat) : Int) = n from by omega]
  · have hz : n = 0 := by
      rw [num_eq hb 1 t (.inl rfl) h0 hl] at q'
      simp only [Option.some.injEq, Prod.mk.injEq] at q'
      rw [← q'.1]
      exact get_err (by rw [q'.2.2]; exact c)
    subst hz
    refine ⟨[], u, e, ?_, fun he => absurd he c⟩
    show manyG (R b) b most t 0 = _
    rw [hg _ _ _ q', if_pos (by omega), if_neg (fun h_ => c h_.1)]
    rfl
end
def clsOk (F : Int) (s : List Int) (x : S38) : Prop := x.f0 = F ∧ mayC x = true ∧ okC x ∧ s = wB x.f1 ++ (rowB ifB x.f2 ++ (rowB tyB x.f3 ++ rowB wB x.f4))
theorem finC_back {c : S38} (h : okC c) : Back (fun _ t e => finC c t e) (fun s x => x = c ∧ mayC c = true ∧ s = []) := by
  intro b t hb h0 hl
  refine ⟨c, t, if mayC c = true then 0 else 5, ?_, fun he => ?_⟩
  · show finC c t 0 = _
    unfold finC
    rw [if_pos rfl, class_May_eq c h, Option.bind_some]
  · by_cases hm : mayC c = true
    · exact ⟨Int.le_refl _, hl, rfl, hm, by unfold seg; simp⟩
    · rw [if_neg hm] at he
      exact absurd he (by decide)
theorem clsR_back {F : Int} (hF : 0 ≤ F ∧ F ≤ 255) (c : Go.bits .and .u8 F 1 = 0) : Back (clsR F) (clsOk F) := by
  refine Back.bind (R1 := fun b t e => wordG b t e) (R2 := fun s b t_ e => (manyG (ifaceG b) b 16 t_ e).bind fun i => (manyG (by44 b) b 255 i.2.1 i.2.2).bind fun t => (manyG (wordG b) b 255 t.2.1 t.2.2).bind fun v => finC ⟨F, s, i.1, t.1, v.1, []⟩ v.2.1 v.2.2)
    (Q2 := fun s z x => x.f0 = F ∧ x.f1 = s ∧ mayC x = true ∧ okC x ∧ z = rowB ifB x.f2 ++ (rowB tyB x.f3 ++ rowB wB x.f4)) word_back (fun _ s hs => ?_) (fun s => i_stuck F s) ?_
  rotate_left
  · rintro s1 s s2 y ⟨h1, rfl⟩ ⟨e0, e1, h2, h3, rfl⟩
    subst e1
    exact ⟨e0, h2, h3, rfl⟩
  obtain ⟨hs, -⟩ := hs
  refine Back.bind (R1 := fun b t e => manyG (ifaceG b) b 16 t e) (R2 := fun i b t_ e => (manyG (by44 b) b 255 t_ e).bind fun t => (manyG (wordG b) b 255 t.2.1 t.2.2).bind fun v => finC ⟨F, s, i, t.1, v.1, []⟩ v.2.1 v.2.2)
    (Q2 := fun i z x => x.f0 = F ∧ x.f1 = s ∧ x.f2 = i ∧ mayC x = true ∧ okC x ∧ z = rowB tyB x.f3 ++ rowB wB x.f4) (many_back (R := fun b t e => ifaceG b t e) (Bf := ifB) (P := fun x => okIf x ∧ x.f1.length ≤ 255) iface_back 16) (fun _ i hi => ?_) (fun i => t_stuck F s i) ?_
  rotate_left
  · rintro s1 i s2 y ⟨h1, rfl⟩ ⟨e0, e1, e2, h2, h3, rfl⟩
    subst e2
    exact ⟨e0, e1, h2, h3, rfl⟩
  obtain ⟨hi, -⟩ := hi
  refine Back.bind (R1 := fun b t e => manyG (by44 b) b 255 t e) (R2 := fun t b t_ e => (manyG (wordG b) b 255 t_ e).bind fun v => finC ⟨F, s, i, t, v.1, []⟩ v.2.1 v.2.2)
    (Q2 := fun t z x => x.f0 = F ∧ x.f1 = s ∧ x.f2 = i ∧ x.f3 = t ∧ mayC x = true ∧ okC x ∧ z = rowB wB x.f4) (many_back (R := fun b t e => by44 b t e) (Bf := tyB) (P := fun x => mayT (toP x) = true ∧ okTy x) by44_back 255) (fun _ t ht => ?_) (fun t => v_stuck F s i t) ?_
  rotate_left
  · rintro s1 t s2 y ⟨h1, rfl⟩ ⟨e0, e1, e2, e3, h2, h3, rfl⟩
    subst e3
    exact ⟨e0, e1, e2, h2, h3, rfl⟩
  obtain ⟨ht, -⟩ := ht
  refine Back.bind (R1 := fun b t e => manyG (wordG b) b 255 t e) (R2 := fun v _ t_ e => finC ⟨F, s, i, t, v, []⟩ t_ e)
    (Q2 := fun v z x => x = ⟨F, s, i, t, v, []⟩ ∧ (mayC x = true ∧ okC x) ∧ z = []) (many_back (R := fun b t e => wordG b t e) (Bf := wB) (P := okW) word_back 255) (fun _ v hv => ?_) (fun v => finC_stuck _) ?_
  · obtain ⟨hv, -⟩ := hv
    have ho : okC ⟨F, s, i, t, v, []⟩ := ⟨hF, hs, fun y hy => (hi.2.2 y hy).1, fun y hy => (ht.2.2 y hy).2, hv.2.2, fun y hy => absurd hy (by simp), by show i.length + t.length + v.length ≤ _; omega⟩
    exact (finC_back ho).imp (fun z x hx => ⟨hx.1, ⟨by rw [hx.1]; exact hx.2.1, by rw [hx.1]; exact ho⟩, hx.2.2⟩)
  · rintro s1 v s2 y ⟨h1, rfl⟩ ⟨rfl, h2, rfl⟩
    exact ⟨rfl, rfl, rfl, rfl, h2.1, h2.2, by simp⟩
theorem ifcR_back {F : Int} (hF : 0 ≤ F ∧ F ≤ 255) : Back (ifcR F) (fun s x => x.f0 = F ∧ mayC x = true ∧ okC x ∧ s = rowB sigB x.f5) := by
  refine Back.bind (R1 := fun b t e => manyG (by66 b) b 255 t e) (R2 := fun s _ t_ e => finC ⟨F, 65535, [], [], [], s⟩ t_ e)
    (Q2 := fun v z x => x = ⟨F, 65535, [], [], [], v⟩ ∧ (mayC x = true ∧ okC x) ∧ z = []) (many_back (R := fun b t e => by66 b t e) (Bf := sigB) (P := fun x => sigOk x = true ∧ okSig x) by66_back 255) (fun _ v hv => ?_) (fun v => finC_stuck _) ?_
  · obtain ⟨hv, -⟩ := hv
    have ho : okC ⟨F, 65535, [], [], [], v⟩ := ⟨hF, ⟨show (0 : Int) ≤ 65535 by decide, show (65535 : Int) ≤ 65535 by decide⟩, fun y hy => absurd hy (by simp), fun y hy => absurd hy (by simp), fun y hy => absurd hy (by simp), fun y hy => (hv.2.2 y hy).2, by simp⟩
    exact (finC_back ho).imp (fun z x hx => ⟨hx.1, ⟨by rw [hx.1]; exact hx.2.1, by rw [hx.1]; exact ho⟩, hx.2.2⟩)
  · rintro s1 v s2 y ⟨h1, rfl⟩ ⟨rfl, h2, rfl⟩
    exact ⟨rfl, h2.1, h2.2, by simp⟩
theorem classG_back : Back (fun b t e => classG b t e) (fun s x => (okC x ∧ mayC x = true) ∧ s = bytesC x) := by
  refine Back.bind (R1 := fun b t e => num b 1 t e) (R2 := restR) (Q2 := fun z s x => x.f0 = z ∧ mayC x = true ∧ okC x ∧ s = (if Go.bits .and .u8 x.f0 1 = 0 then wB x.f1 ++ (rowB ifB x.f2 ++ (rowB tyB x.f3 ++ rowB wB x.f4)) else rowB sigB x.f5)) num_back (fun _ F hF => ?_) restR_stuck ?_
  · obtain ⟨hF, -⟩ := hF
    have e : restR F = if Go.bits .and .u8 F 1 = 0 then clsR F else ifcR F := by
      funext b t e
      unfold restR
      rw [Int.emod_eq_of_lt hF.1 (by omega)]
      split <;> rfl
    rw [e]
    by_cases c : Go.bits .and .u8 F 1 = 0
    · rw [if_pos c]
      refine (clsR_back hF c).imp (fun s x hx => ⟨hx.1, hx.2.1, hx.2.2.1, ?_⟩)
      rw [hx.1, if_pos c]
      exact hx.2.2.2
    · rw [if_neg c]
      refine (ifcR_back hF).imp (fun s x hx => ⟨hx.1, hx.2.1, hx.2.2.1, ?_⟩)
      rw [hx.1, if_neg c]
      exact hx.2.2.2
  · rintro s1 F s2 y ⟨h1, rfl⟩ ⟨e0, h2, h3, rfl⟩
    subst e0
    exact ⟨⟨h3, h2⟩, rfl⟩
/-- What is got. -/
theorem get_back (k : Nat) (b : List Int) (hb : Hb b) : ∃ m f, class_Get.f k b = some (m, f) ∧ (f = 0 → (∀ x ∈ m, okC x) ∧ putC m = (b, 0)) ∧ (f ≠ 0 → m = []) := by
  obtain ⟨l, u, e, q, k1⟩ := many_back (R := fun b t e => classG b t e) (Bf := bytesC) (P := fun x => okC x ∧ mayC x = true) classG_back 64 b 0 hb (Int.le_refl _) (by omega)
  have q' : manyG (classG b) b 64 0 0 = some (l, u, e) := q
  unfold class_Get.f
  rw [q', Option.bind_some]
  by_cases c : e = 0
  · subst c
    obtain ⟨h1, h2, ⟨h3, h4, h5⟩, h6⟩ := k1 rfl
    by_cases c2 : u < (b.length : Int)
    · exact ⟨[], 5, by simp [c2], fun h_ => absurd h_ (by decide), fun _ => rfl⟩
    · refine ⟨l, 0, by simp [c2], fun _ => ⟨fun x hx => (h5 x hx).1, ?_⟩, fun h_ => absurd rfl h_⟩
      unfold putC
      rw [if_pos (List.all_eq_true.mpr (fun x hx => (h5 x hx).2)), if_neg (by omega), ← h6]
      unfold seg
      simp only [Int.toNat_zero, List.drop_zero, Int.sub_zero]
      rw [List.take_of_length_le (by omega)]
  · exact ⟨[], e, by simp [c], fun h_ => absurd h_ c, fun _ => rfl⟩
theorem ref8_Same_l0 (l : List S38) (hl : l.length ≤ 64) (h : ∀ x ∈ l, okC x) (hm : l.all mayC = true) : ∀ (d k i : Nat), i + d = l.length → 1010 + d ≤ k → garderoberef08_Same.l0 k l l (i : Int) = some true
  | 0, k, i, hi, hk => by
    obtain ⟨k, rfl⟩ : ∃ m, k = m + 1 := ⟨k - 1, by omega⟩
    simp only [garderoberef08_Same.l0]
    rw [if_neg (by omega)]
  | d + 1, k, i, hi, hk => by
    obtain ⟨k, rfl⟩ : ∃ m, k = m + 1 := ⟨k - 1, by omega⟩
    have h1 : i < l.length := by omega
    have hx := h _ (List.getElem_mem h1)
    have hmm := List.all_eq_true.mp hm l[i] (List.getElem_mem h1)
    have e1 := ref8_May_eq k (by omega) l[i] hx
    have e2 := ref8_bytes_eq k (by omega) l[i] hx hmm
    rw [hmm] at e1
    simp only [garderoberef08_Same.l0]
    rw [if_pos (by omega), if_pos (by omega), rd38_eq h1, e1, Option.bind_some, if_pos rfl, if_pos (by omega), Option.bind_some, if_pos rfl, e2, Option.bind_some, Option.bind_some, if_pos rfl, wrap_id (by omega) (by omega), show ((i : Int) + 1) = ((i + 1 : Nat) : Int) from by omega]
    exact ref8_Same_l0 l hl h hm d k (i + 1) (by omega) (by omega)
theorem ref8_Same_eq (k : Nat) (hk : 1100 ≤ k) (l : List S38) (hl : l.length ≤ 64) (h : ∀ x ∈ l, okC x) (hm : l.all mayC = true) : garderoberef08_Same.f k l l = some true := by
  unfold garderoberef08_Same.f
  rw [if_pos rfl]
  exact ref8_Same_l0 l hl h hm l.length k 0 (by omega) (by omega)
def Agree {α : Type} (R1 R2 : List Int → Int → Int → Option (α × Int × Int)) : Prop :=
  ∀ b t, Hb b → 0 ≤ t → t ≤ (b.length : Int) → ∃ x u x' u' e, R1 b t 0 = some (x, u, e) ∧ R2 b t 0 = some (x', u', e) ∧ (e = 0 → x = x' ∧ u = u' ∧ t ≤ u ∧ u ≤ (b.length : Int))
theorem Agree.bind {α β : Type} {R1 R2 : List Int → Int → Int → Option (α × Int × Int)} {S1 S2 : α → List Int → Int → Int → Option (β × Int × Int)} (h : Agree R1 R2) (k : ∀ x, Agree (S1 x) (S2 x)) (s1 : ∀ x, Stuck (S1 x)) (s2 : ∀ x, Stuck (S2 x)) :
    Agree (fun b t e => (R1 b t e).bind fun r => S1 r.1 b r.2.1 r.2.2) (fun b t e => (R2 b t e).bind fun r => S2 r.1 b r.2.1 r.2.2) := by
  intro b t hb h0 hl
  obtain ⟨x, u, x', u', e, q1, q2, hq⟩ := h b t hb h0 hl
  by_cases c : e = 0
  · subst c
    obtain ⟨rfl, rfl, hu, hul⟩ := hq rfl
    obtain ⟨y, v, y', v', e, p1, p2, hp⟩ := k x b u hb (by omega) hul
    refine ⟨y, v, y', v', e, ?_, ?_, fun he => ?_⟩
    · show (R1 b t 0).bind _ = _
      rw [q1, Option.bind_some]; exact p1
    · show (R2 b t 0).bind _ = _
      rw [q2, Option.bind_some]; exact p2
    · obtain ⟨a1, a2, a3, a4⟩ := hp he
      exact ⟨a1, a2, by omega, a4⟩
  · obtain ⟨y, p1⟩ := s1 x b u e c
    obtain ⟨y', p2⟩ := s2 x' b u' e c
    refine ⟨y, u, y', u', e, ?_, ?_, fun he => absurd he c⟩
    · show (R1 b t 0).bind _ = _
      rw [q1, Option.bind_some]; exact p1
    · show (R2 b t 0).bind _ = _
      rw [q2, Option.bind_some]; exact p2
theorem numT_eq {b : List Int} (hb : Hb b) (s t : Int) (hs : s = 1 ∨ s = 2) (h0 : 0 ≤ t) (h1 : t ≤ b.length) : numT b s t 0 = some ((getS b t s).1, t + s, (getS b t s).2) := by
  have hl := hb.2
  have hr := get_range hb.1 t s
  unfold numT
  rw [if_pos rfl, ref_Get_eq 20 (by decide) b hb.1 t s hl (by omega) (by omega), Option.bind_some, if_pos ⟨hr.1, hr.2.1⟩, wrap_id (by omega) (by omega)]
theorem wordT_stuck : Stuck (fun b t e => wordT b t e) := fun b t e he => ⟨_, by show wordT b t e = _; unfold wordT numT; rw [if_neg he, Option.bind_some]⟩
theorem num_agree : Agree (fun b t e => num b 1 t e) (fun b t e => numT b 1 t e) := by
  intro b t hb h0 hl
  refine ⟨_, _, _, _, _, num_eq hb 1 t (.inl rfl) h0 hl, numT_eq hb 1 t (.inl rfl) h0 hl, fun he => ⟨rfl, rfl, ?_⟩⟩
  have hp := get_place (s := 1) (by decide) he
  omega
theorem word_agree : Agree (fun b t e => wordG b t e) (fun b t e => wordT b t e) := by
  intro b t hb h0 hl
  refine ⟨_, _, _, _, _, show wordG b t 0 = _ by unfold wordG; rw [num_eq hb 2 t (.inr rfl) h0 hl, Option.bind_some], show wordT b t 0 = _ by unfold wordT; rw [numT_eq hb 2 t (.inr rfl) h0 hl, Option.bind_some], fun he => ⟨rfl, rfl, ?_⟩⟩
  have hp := get_place (s := 2) (by decide) he
  simp only
  omega
theorem sig_agree : Agree (fun b t e => by66 b t e) (fun b t e => sigT b t e) := by
  intro b t hb h0 hl
  have hl2 := hb.2
  refine ⟨_, _, _, _, _, show by66 b t 0 = _ by unfold by66; rw [if_pos rfl, types_GetSig_eq 60 (by decide) b hb.1 t hb.2 (by omega), Option.bind_some], show sigT b t 0 = _ by unfold sigT; rw [ref4_GetSig_eq 60 (by decide) b hb.1 t hb.2 (by omega), Option.bind_some], fun he => ?_⟩
  simp only at he ⊢
  have p := getSig_place he
  rw [if_pos he]
  exact ⟨by trivial, by trivial, by omega, p.2.2⟩
theorem typ_agree : Agree (fun b t e => by44 b t e) (fun b t e => typT b t e) := by
  intro b t hb h0 hl
  have hl2 := hb.2
  refine ⟨_, _, _, _, _, show by44 b t 0 = _ by unfold by44; rw [if_pos rfl, types_Get_eq 20 (by decide) b hb.1 t hb.2 (by omega), Option.bind_some], show typT b t 0 = _ by unfold typT; rw [ref4_Get_eq 20 (by decide) b hb.1 t hb.2 (by omega), Option.bind_some], fun he => ?_⟩
  simp only at he ⊢
  have p := getT_place he
  rw [if_pos he]
  exact ⟨by trivial, by trivial, by omega, p.2.2.1⟩
theorem iface_agree : Agree (fun b t e => ifaceG b t e) (fun b t e => ifaceT b t e) := by
  intro b t hb h0 hl
  have hl2 := hb.2
  obtain ⟨x, u, x', u', e, q1, q2, hq⟩ := word_agree b t hb h0 hl
  have q1' : wordG b t 0 = some (x, u, e) := q1
  have q2' : wordT b t 0 = some (x', u', e) := q2
  by_cases c : e = 0
  · subst c
    obtain ⟨rfl, rfl, hu, hul⟩ := hq rfl
    refine ⟨_, _, _, _, _, show ifaceG b t 0 = _ by unfold ifaceG; rw [q1', Option.bind_some]; unfold by24; rw [if_pos rfl, ends_GetRow_eq 20 (by decide) b hb.1 u 1 hb.2 (by omega), Option.bind_some, Option.bind_some], show ifaceT b t 0 = _ by unfold ifaceT; rw [q2', Option.bind_some, if_pos rfl, ref_GetRow_eq 20 (by decide) b hb.1 u 1 hb.2 (by omega), Option.bind_some], fun he => ?_⟩
    simp only at he ⊢
    rw [if_pos he]
    obtain ⟨m, v, e', p1, p2⟩ := by24_back b u hb (by omega) hul
    have p1' : by24 b u 0 = some (m, v, e') := p1
    unfold by24 at p1'
    rw [if_pos rfl, ends_GetRow_eq 20 (by decide) b hb.1 u 1 hb.2 (by omega), Option.bind_some] at p1'
    simp only [Option.some.injEq, Prod.mk.injEq] at p1'
    obtain ⟨_, a2, a3⟩ := p1'
    rw [if_pos he] at a2
    have p3 := p2 (a3.symm.trans he)
    exact ⟨by trivial, by trivial, by omega, by omega⟩
  · obtain ⟨y, p1⟩ := (Stuck.bind (R1 := fun b t e => by24 b t e) (R2 := fun m b t e => some ((⟨x, m⟩ : S41), t, e)) by24_stuck (fun m b t e _ => ⟨_, rfl⟩)) b u e c
    refine ⟨y, u, ⟨x', []⟩, u', e, ?_, ?_, fun he => absurd he c⟩
    · show (wordG b t 0).bind _ = _
      rw [q1', Option.bind_some]; exact p1
    · show ifaceT b t 0 = _
      unfold ifaceT
      rw [q2', Option.bind_some, if_neg c]
section
variable {α : Type} {R1 R2 : List Int → Int → Int → Option (α × Int × Int)}
theorem manyL_agree (h : Agree R1 R2) {b : List Int} (hb : Hb b) : ∀ (n : Nat) (acc : List α) (t : Int), 0 ≤ t → t ≤ (b.length : Int) → ∃ x u x' u' e, manyL (R1 b) n acc t 0 = some (x, u, e) ∧ manyL (R2 b) n acc t 0 = some (x', u', e) ∧ (e = 0 → x = x' ∧ u = u' ∧ t ≤ u ∧ u ≤ (b.length : Int))
  | 0, acc, t, h0, hl => ⟨acc, t, acc, t, 0, rfl, rfl, fun _ => ⟨rfl, rfl, Int.le_refl _, hl⟩⟩
  | n + 1, acc, t, h0, hl => by
    obtain ⟨x, u, x', u', e, q1, q2, hq⟩ := h b t hb h0 hl
    unfold manyL
    rw [if_pos rfl, if_pos rfl, q1, q2, Option.bind_some, Option.bind_some]
    by_cases c : e = 0
    · subst c
      obtain ⟨rfl, rfl, hu, hul⟩ := hq rfl
      obtain ⟨y, v, y', v', e, p1, p2, hp⟩ := manyL_agree h hb n (acc ++ [x]) u (by omega) hul
      refine ⟨y, v, y', v', e, p1, p2, fun he => ?_⟩
      obtain ⟨a1, a2, a3, a4⟩ := hp he
      exact ⟨a1, a2, by omega, a4⟩
    · exact ⟨_, _, _, _, e, manyL_stuck _ _ _ _ _ c, manyL_stuck _ _ _ _ _ c, fun he => absurd he c⟩
theorem manyT_stuck (R : List Int → Int → Int → Option (α × Int × Int)) (most : Int) : Stuck (fun b t e => manyT (R b) b most t e) := by
  intro b t e he
  refine ⟨[], ?_⟩
  show manyT (R b) b most t e = _
  unfold manyT numT
  rw [if_neg he, Option.bind_some]
  simp only
  rw [if_pos (by omega), if_neg (fun h => he h.1)]
  rfl
theorem many_agree (h : Agree R1 R2) (most : Int) : Agree (fun b t e => manyG (R1 b) b most t e) (fun b t e => manyT (R2 b) b most t e) := by
  intro b t hb h0 hl
  have hr := get_range hb.1 t 1
  have hM : 0 ≤ (getS b t 1).1 ∧ (getS b t 1).1 ≤ 255 := ⟨hr.1, hr.2.2.1 rfl⟩
  have g1 : manyG (R1 b) b most t 0 = manyL (R1 b) (getS b t 1).1.toNat [] (t + 1) (if (getS b t 1).2 = 0 ∧ (getS b t 1).1 > most then 3 else (getS b t 1).2) := by
    unfold manyG
    rw [num_eq hb 1 t (.inl rfl) h0 hl, Option.bind_some]
    simp only
    rw [if_pos hM]
  have g2 : manyT (R2 b) b most t 0 = manyL (R2 b) (getS b t 1).1.toNat [] (t + 1) (if (getS b t 1).2 = 0 ∧ (getS b t 1).1 > most then 3 else (getS b t 1).2) := by
    unfold manyT
    rw [numT_eq hb 1 t (.inl rfl) h0 hl, Option.bind_some]
    simp only
    rw [if_pos hM]
  by_cases c : (if (getS b t 1).2 = 0 ∧ (getS b t 1).1 > most then 3 else (getS b t 1).2) = 0
  · rw [c] at g1 g2
    have hz : (getS b t 1).2 = 0 := by
      split at c
      · exact absurd c (by decide)
      · exact c
    have hp := get_place (s := 1) (by decide) hz
    obtain ⟨x, u, x', u', e, q1, q2, hq⟩ := manyL_agree h hb (getS b t 1).1.toNat [] (t + 1) (by omega) (by omega)
    refine ⟨x, u, x', u', e, g1.trans q1, g2.trans q2, fun he => ?_⟩
    obtain ⟨a1, a2, a3, a4⟩ := hq he
    exact ⟨a1, a2, by omega, a4⟩
  · exact ⟨_, _, _, _, _, g1.trans (manyL_stuck _ _ _ _ _ c), g2.trans (manyL_stuck _ _ _ _ _ c), fun he => absurd he c⟩
end
def pureR {α : Type} (c : α) (_b : List Int) (t e : Int) : Option (α × Int × Int) := some (c, t, e)
theorem pureR_stuck {α : Type} (c : α) : Stuck (pureR c) := fun b t e _ => ⟨c, rfl⟩
theorem pureR_agree {α : Type} (c : α) : Agree (pureR c) (pureR c) := fun b t hb h0 hl => ⟨c, t, c, t, 0, rfl, rfl, fun _ => ⟨rfl, rfl, Int.le_refl _, hl⟩⟩
theorem pureR_back {α : Type} (c : α) : Back (pureR c) (fun _ x => x = c) := fun b t hb h0 hl => ⟨c, t, 0, rfl, fun _ => ⟨Int.le_refl _, hl, rfl⟩⟩
def clsW (F : Int) (b : List Int) (t e : Int) : Option (S38 × Int × Int) := (wordG b t e).bind fun s => (manyG (ifaceG b) b 16 s.2.1 s.2.2).bind fun i => (manyG (by44 b) b 255 i.2.1 i.2.2).bind fun t => (manyG (wordG b) b 255 t.2.1 t.2.2).bind fun v => pureR (⟨F, s.1, i.1, t.1, v.1, []⟩ : S38) b v.2.1 v.2.2
def ifcW (F : Int) (b : List Int) (t e : Int) : Option (S38 × Int × Int) := (manyG (by66 b) b 255 t e).bind fun s => pureR (⟨F, 65535, [], [], [], s.1⟩ : S38) b s.2.1 s.2.2
def clsV (F : Int) (b : List Int) (t e : Int) : Option (S38 × Int × Int) := (wordT b t e).bind fun s => (manyT (ifaceT b) b 16 s.2.1 s.2.2).bind fun i => (manyT (typT b) b 255 i.2.1 i.2.2).bind fun t => (manyT (wordT b) b 255 t.2.1 t.2.2).bind fun v => pureR (⟨F, s.1, i.1, t.1, v.1, []⟩ : S38) b v.2.1 v.2.2
def ifcV (F : Int) (b : List Int) (t e : Int) : Option (S38 × Int × Int) := (manyT (sigT b) b 255 t e).bind fun s => pureR (⟨F, 65535, [], [], [], s.1⟩ : S38) b s.2.1 s.2.2
def restW (z : Int) (b : List Int) (t e : Int) : Option (S38 × Int × Int) := if Go.bits .and .u8 (z % 256) 1 = 0 then clsW (z % 256) b t e else ifcW (z % 256) b t e
def restV (z : Int) (b : List Int) (t e : Int) : Option (S38 × Int × Int) := if e = 0 ∧ Int.tmod (z % 256) 2 = 1 then ifcV (z % 256) b t e else clsV (z % 256) b t e
def rawC (b : List Int) (t e : Int) : Option (S38 × Int × Int) := (num b 1 t e).bind fun f => restW f.1 b f.2.1 f.2.2
theorem clsR_raw (F : Int) (b : List Int) (t e : Int) : clsR F b t e = (clsW F b t e).bind fun c => finC c.1 c.2.1 c.2.2 := by
  unfold clsR clsW pureR
  simp only [Option.bind_assoc, Option.bind_some]
theorem ifcR_raw (F : Int) (b : List Int) (t e : Int) : ifcR F b t e = (ifcW F b t e).bind fun c => finC c.1 c.2.1 c.2.2 := by
  unfold ifcR ifcW pureR
  simp only [Option.bind_assoc, Option.bind_some]
theorem classG_raw (b : List Int) (t e : Int) : classG b t e = (rawC b t e).bind fun c => finC c.1 c.2.1 c.2.2 := by
  rw [classG_eq]
  unfold rawC
  rw [Option.bind_assoc]
  congr 1
  funext f
  unfold restR restW
  split
  · exact clsR_raw _ _ _ _
  · exact ifcR_raw _ _ _ _
theorem clsW_s3 (F s : Int) (i : List S41) (t : List S44) : Stuck (fun b t_ e => (manyG (wordG b) b 255 t_ e).bind fun v => pureR (⟨F, s, i, t, v.1, []⟩ : S38) b v.2.1 v.2.2) :=
  Stuck.bind (R1 := fun b t e => manyG (wordG b) b 255 t e) (R2 := fun v => pureR (⟨F, s, i, t, v, []⟩ : S38)) (many_stuck (fun b t e => wordG b t e) 255) (fun v => pureR_stuck _)
theorem clsW_s2 (F s : Int) (i : List S41) : Stuck (fun b t_ e => (manyG (by44 b) b 255 t_ e).bind fun t => (manyG (wordG b) b 255 t.2.1 t.2.2).bind fun v => pureR (⟨F, s, i, t.1, v.1, []⟩ : S38) b v.2.1 v.2.2) :=
  Stuck.bind (R1 := fun b t e => manyG (by44 b) b 255 t e) (R2 := fun t b t_ e => (manyG (wordG b) b 255 t_ e).bind fun v => pureR (⟨F, s, i, t, v.1, []⟩ : S38) b v.2.1 v.2.2) (many_stuck (fun b t e => by44 b t e) 255) (fun t => clsW_s3 F s i t)
theorem clsW_s1 (F s : Int) : Stuck (fun b t_ e => (manyG (ifaceG b) b 16 t_ e).bind fun i => (manyG (by44 b) b 255 i.2.1 i.2.2).bind fun t => (manyG (wordG b) b 255 t.2.1 t.2.2).bind fun v => pureR (⟨F, s, i.1, t.1, v.1, []⟩ : S38) b v.2.1 v.2.2) :=
  Stuck.bind (R1 := fun b t e => manyG (ifaceG b) b 16 t e) (R2 := fun i b t_ e => (manyG (by44 b) b 255 t_ e).bind fun t => (manyG (wordG b) b 255 t.2.1 t.2.2).bind fun v => pureR (⟨F, s, i, t.1, v.1, []⟩ : S38) b v.2.1 v.2.2) (many_stuck (fun b t e => ifaceG b t e) 16) (fun i => clsW_s2 F s i)
theorem clsW_stuck (F : Int) : Stuck (clsW F) :=
  Stuck.bind (R1 := fun b t e => wordG b t e) (R2 := fun s b t_ e => (manyG (ifaceG b) b 16 t_ e).bind fun i => (manyG (by44 b) b 255 i.2.1 i.2.2).bind fun t => (manyG (wordG b) b 255 t.2.1 t.2.2).bind fun v => pureR (⟨F, s, i.1, t.1, v.1, []⟩ : S38) b v.2.1 v.2.2) word_stuck (fun s => clsW_s1 F s)
theorem ifcW_stuck (F : Int) : Stuck (ifcW F) :=
  Stuck.bind (R1 := fun b t e => manyG (by66 b) b 255 t e) (R2 := fun s => pureR (⟨F, 65535, [], [], [], s⟩ : S38)) (many_stuck (fun b t e => by66 b t e) 255) (fun s => pureR_stuck _)
theorem restW_stuck (z : Int) : Stuck (restW z) := by
  intro b t e he
  unfold restW
  split
  · exact clsW_stuck _ b t e he
  · exact ifcW_stuck _ b t e he
theorem clsV_s3 (F s : Int) (i : List S41) (t : List S44) : Stuck (fun b t_ e => (manyT (wordT b) b 255 t_ e).bind fun v => pureR (⟨F, s, i, t, v.1, []⟩ : S38) b v.2.1 v.2.2) :=
  Stuck.bind (R1 := fun b t e => manyT (wordT b) b 255 t e) (R2 := fun v => pureR (⟨F, s, i, t, v, []⟩ : S38)) (manyT_stuck (fun b t e => wordT b t e) 255) (fun v => pureR_stuck _)
theorem clsV_s2 (F s : Int) (i : List S41) : Stuck (fun b t_ e => (manyT (typT b) b 255 t_ e).bind fun t => (manyT (wordT b) b 255 t.2.1 t.2.2).bind fun v => pureR (⟨F, s, i, t.1, v.1, []⟩ : S38) b v.2.1 v.2.2) :=
  Stuck.bind (R1 := fun b t e => manyT (typT b) b 255 t e) (R2 := fun t b t_ e => (manyT (wordT b) b 255 t_ e).bind fun v => pureR (⟨F, s, i, t, v.1, []⟩ : S38) b v.2.1 v.2.2) (manyT_stuck (fun b t e => typT b t e) 255) (fun t => clsV_s3 F s i t)
theorem clsV_s1 (F s : Int) : Stuck (fun b t_ e => (manyT (ifaceT b) b 16 t_ e).bind fun i => (manyT (typT b) b 255 i.2.1 i.2.2).bind fun t => (manyT (wordT b) b 255 t.2.1 t.2.2).bind fun v => pureR (⟨F, s, i.1, t.1, v.1, []⟩ : S38) b v.2.1 v.2.2) :=
  Stuck.bind (R1 := fun b t e => manyT (ifaceT b) b 16 t e) (R2 := fun i b t_ e => (manyT (typT b) b 255 t_ e).bind fun t => (manyT (wordT b) b 255 t.2.1 t.2.2).bind fun v => pureR (⟨F, s, i, t.1, v.1, []⟩ : S38) b v.2.1 v.2.2) (manyT_stuck (fun b t e => ifaceT b t e) 16) (fun i => clsV_s2 F s i)
theorem clsV_stuck (F : Int) : Stuck (clsV F) :=
  Stuck.bind (R1 := fun b t e => wordT b t e) (R2 := fun s b t_ e => (manyT (ifaceT b) b 16 t_ e).bind fun i => (manyT (typT b) b 255 i.2.1 i.2.2).bind fun t => (manyT (wordT b) b 255 t.2.1 t.2.2).bind fun v => pureR (⟨F, s, i.1, t.1, v.1, []⟩ : S38) b v.2.1 v.2.2) wordT_stuck (fun s => clsV_s1 F s)
theorem restV_stuck (z : Int) : Stuck (restV z) := by
  intro b t e he
  unfold restV
  rw [if_neg (fun h => he h.1)]
  exact clsV_stuck _ b t e he
theorem cls_agree (F : Int) : Agree (clsW F) (clsV F) := by
  refine Agree.bind (R1 := fun b t e => wordG b t e) (R2 := fun b t e => wordT b t e) (S1 := fun s b t_ e => (manyG (ifaceG b) b 16 t_ e).bind fun i => (manyG (by44 b) b 255 i.2.1 i.2.2).bind fun t => (manyG (wordG b) b 255 t.2.1 t.2.2).bind fun v => pureR (⟨F, s, i.1, t.1, v.1, []⟩ : S38) b v.2.1 v.2.2) (S2 := fun s b t_ e => (manyT (ifaceT b) b 16 t_ e).bind fun i => (manyT (typT b) b 255 i.2.1 i.2.2).bind fun t => (manyT (wordT b) b 255 t.2.1 t.2.2).bind fun v => pureR (⟨F, s, i.1, t.1, v.1, []⟩ : S38) b v.2.1 v.2.2) word_agree (fun s => ?_) (fun s => clsW_s1 F s) (fun s => clsV_s1 F s)
  refine Agree.bind (R1 := fun b t e => manyG (ifaceG b) b 16 t e) (R2 := fun b t e => manyT (ifaceT b) b 16 t e) (S1 := fun i b t_ e => (manyG (by44 b) b 255 t_ e).bind fun t => (manyG (wordG b) b 255 t.2.1 t.2.2).bind fun v => pureR (⟨F, s, i, t.1, v.1, []⟩ : S38) b v.2.1 v.2.2) (S2 := fun i b t_ e => (manyT (typT b) b 255 t_ e).bind fun t => (manyT (wordT b) b 255 t.2.1 t.2.2).bind fun v => pureR (⟨F, s, i, t.1, v.1, []⟩ : S38) b v.2.1 v.2.2) (many_agree (R1 := fun b t e => ifaceG b t e) (R2 := fun b t e => ifaceT b t e) iface_agree 16) (fun i => ?_) (fun i => clsW_s2 F s i) (fun i => clsV_s2 F s i)
  refine Agree.bind (R1 := fun b t e => manyG (by44 b) b 255 t e) (R2 := fun b t e => manyT (typT b) b 255 t e) (S1 := fun t b t_ e => (manyG (wordG b) b 255 t_ e).bind fun v => pureR (⟨F, s, i, t, v.1, []⟩ : S38) b v.2.1 v.2.2) (S2 := fun t b t_ e => (manyT (wordT b) b 255 t_ e).bind fun v => pureR (⟨F, s, i, t, v.1, []⟩ : S38) b v.2.1 v.2.2) (many_agree (R1 := fun b t e => by44 b t e) (R2 := fun b t e => typT b t e) typ_agree 255) (fun t => ?_) (fun t => clsW_s3 F s i t) (fun t => clsV_s3 F s i t)
  exact Agree.bind (R1 := fun b t e => manyG (wordG b) b 255 t e) (R2 := fun b t e => manyT (wordT b) b 255 t e) (S1 := fun v => pureR (⟨F, s, i, t, v, []⟩ : S38)) (S2 := fun v => pureR (⟨F, s, i, t, v, []⟩ : S38)) (many_agree (R1 := fun b t e => wordG b t e) (R2 := fun b t e => wordT b t e) word_agree 255) (fun v => pureR_agree _) (fun v => pureR_stuck _) (fun v => pureR_stuck _)
theorem ifc_agree (F : Int) : Agree (ifcW F) (ifcV F) :=
  Agree.bind (R1 := fun b t e => manyG (by66 b) b 255 t e) (R2 := fun b t e => manyT (sigT b) b 255 t e) (S1 := fun s => pureR (⟨F, 65535, [], [], [], s⟩ : S38)) (S2 := fun s => pureR (⟨F, 65535, [], [], [], s⟩ : S38)) (many_agree (R1 := fun b t e => by66 b t e) (R2 := fun b t e => sigT b t e) sig_agree 255) (fun v => pureR_agree _) (fun v => pureR_stuck _) (fun v => pureR_stuck _)
theorem u8_one' {a : Int} (h : 0 ≤ a ∧ a ≤ 255) : Go.bits .and .u8 a 1 = a % 2 := by
  have q : ∀ n : Fin 256, Go.bits .and .u8 (n.val : Int) 1 = (n.val : Int) % 2 := by decide +kernel
  have := q ⟨a.toNat, by omega⟩
  rw [show ((⟨a.toNat, by omega⟩ : Fin 256).val : Int) = a from by simp; omega] at this
  exact this
theorem rest_agree (z : Int) : Agree (restW z) (restV z) := by
  intro b t hb h0 hl
  have hz : 0 ≤ z % 256 ∧ z % 256 ≤ 255 := by omega
  unfold restW restV
  rw [u8_one' hz, Int.tmod_eq_emod_of_nonneg hz.1]
  by_cases c : z % 256 % 2 = 0
  · rw [if_pos c, if_neg (by omega)]
    exact cls_agree _ b t hb h0 hl
  · rw [if_neg c, if_pos ⟨rfl, by omega⟩]
    exact ifc_agree _ b t hb h0 hl
theorem raw_agree : Agree (fun b t e => rawC b t e) (fun b t e => classT b t e) :=
  Agree.bind (R1 := fun b t e => num b 1 t e) (R2 := fun b t e => numT b 1 t e) (S1 := restW) (S2 := restV) num_agree rest_agree restW_stuck restV_stuck
theorem raw_back : Back (fun b t e => rawC b t e) (fun _ x => okC x) := by
  refine Back.bind (R1 := fun b t e => num b 1 t e) (R2 := restW) (Q2 := fun _ _ x => okC x) num_back (fun _ F hF => ?_) restW_stuck (fun _ _ _ _ _ h => h)
  obtain ⟨hF, -⟩ := hF
  have hF' : 0 ≤ F % 256 ∧ F % 256 ≤ 255 := by omega
  have hc : Back (clsW (F % 256)) (fun _ x => okC x) := by
    refine Back.bind (R1 := fun b t e => wordG b t e) (R2 := fun s b t_ e => (manyG (ifaceG b) b 16 t_ e).bind fun i => (manyG (by44 b) b 255 i.2.1 i.2.2).bind fun t => (manyG (wordG b) b 255 t.2.1 t.2.2).bind fun v => pureR (⟨F % 256, s, i.1, t.1, v.1, []⟩ : S38) b v.2.1 v.2.2) (Q2 := fun _ _ x => okC x) word_back (fun _ s hs => ?_) (fun s => clsW_s1 _ s) (fun _ _ _ _ _ h => h)
    refine Back.bind (R1 := fun b t e => manyG (ifaceG b) b 16 t e) (R2 := fun i b t_ e => (manyG (by44 b) b 255 t_ e).bind fun t => (manyG (wordG b) b 255 t.2.1 t.2.2).bind fun v => pureR (⟨F % 256, s, i, t.1, v.1, []⟩ : S38) b v.2.1 v.2.2) (Q2 := fun _ _ x => okC x) (many_back (R := fun b t e => ifaceG b t e) (Bf := ifB) (P := fun x => okIf x ∧ x.f1.length ≤ 255) iface_back 16) (fun _ i hi => ?_) (fun i => clsW_s2 _ s i) (fun _ _ _ _ _ h => h)
    refine Back.bind (R1 := fun b t e => manyG (by44 b) b 255 t e) (R2 := fun t b t_ e => (manyG (wordG b) b 255 t_ e).bind fun v => pureR (⟨F % 256, s, i, t, v.1, []⟩ : S38) b v.2.1 v.2.2) (Q2 := fun _ _ x => okC x) (many_back (R := fun b t e => by44 b t e) (Bf := tyB) (P := fun x => mayT (toP x) = true ∧ okTy x) by44_back 255) (fun _ t ht => ?_) (fun t => clsW_s3 _ s i t) (fun _ _ _ _ _ h => h)
    refine Back.bind (R1 := fun b t e => manyG (wordG b) b 255 t e) (R2 := fun v => pureR (⟨F % 256, s, i, t, v, []⟩ : S38)) (Q2 := fun _ _ x => okC x) (many_back (R := fun b t e => wordG b t e) (Bf := wB) (P := okW) word_back 255) (fun _ v hv => ?_) (fun v => pureR_stuck _) (fun _ _ _ _ _ h => h)
    obtain ⟨hs, -⟩ := hs
    obtain ⟨hi, -⟩ := hi
    obtain ⟨ht, -⟩ := ht
    obtain ⟨hv, -⟩ := hv
    exact (pureR_back _).imp (fun _ x hx => by rw [hx]; exact ⟨hF', hs, fun y hy => (hi.2.2 y hy).1, fun y hy => (ht.2.2 y hy).2, hv.2.2, fun y hy => absurd hy (by simp), by show i.length + t.length + v.length ≤ _; omega⟩)
  have hi : Back (ifcW (F % 256)) (fun _ x => okC x) := by
    refine Back.bind (R1 := fun b t e => manyG (by66 b) b 255 t e) (R2 := fun s => pureR (⟨F % 256, 65535, [], [], [], s⟩ : S38)) (Q2 := fun _ _ x => okC x) (many_back (R := fun b t e => by66 b t e) (Bf := sigB) (P := fun x => sigOk x = true ∧ okSig x) by66_back 255) (fun _ v hv => ?_) (fun v => pureR_stuck _) (fun _ _ _ _ _ h => h)
    obtain ⟨hv, -⟩ := hv
    exact (pureR_back _).imp (fun _ x hx => by rw [hx]; exact ⟨hF', ⟨show (0 : Int) ≤ 65535 by decide, show (65535 : Int) ≤ 65535 by decide⟩, fun y hy => absurd hy (by simp), fun y hy => absurd hy (by simp), fun y hy => absurd hy (by simp), fun y hy => (hv.2.2 y hy).2, by simp⟩)
  intro b t hb h0 hl
  unfold restW
  split
  · exact hc b t hb h0 hl
  · exact hi b t hb h0 hl
theorem next_agree (may : S38 → Option Bool) (hmay : ∀ x, okC x → may x = some (mayC x)) : Agree (fun b t e => classG b t e) (fun b t e => nextT may b t e) := by
  intro b t hb h0 hl
  obtain ⟨x, u, x', u', e, q1, q2, hq⟩ := raw_agree b t hb h0 hl
  obtain ⟨y, v, e', p1, hp⟩ := raw_back b t hb h0 hl
  have q1' : rawC b t 0 = some (x, u, e) := q1
  have q2' : classT b t 0 = some (x', u', e) := q2
  have p1' : rawC b t 0 = some (y, v, e') := p1
  have g1 : classG b t 0 = finC x u e := by rw [classG_raw, q1', Option.bind_some]
  by_cases c : e = 0
  · subst c
    obtain ⟨rfl, rfl, hu, hul⟩ := hq rfl
    have hx : okC x := by
      rw [q1'] at p1'
      simp only [Option.some.injEq, Prod.mk.injEq] at p1'
      obtain ⟨rfl, rfl, rfl⟩ := p1'
      exact (hp rfl).2.2
    refine ⟨x, u, x, u, if mayC x = true then 0 else 5, ?_, ?_, fun he => ⟨rfl, rfl, hu, hul⟩⟩
    · refine g1.trans ?_
      unfold finC
      rw [if_pos rfl, class_May_eq x hx, Option.bind_some]
    · show nextT may b t 0 = _
      unfold nextT
      rw [q2', Option.bind_some, if_pos rfl, hmay x hx, Option.bind_some]
  · refine ⟨x, u, x', u', e, ?_, ?_, fun he => absurd he c⟩
    · refine g1.trans ?_
      unfold finC
      rw [if_neg c]
    · show nextT may b t 0 = _
      unfold nextT
      rw [q2', Option.bind_some, if_neg c]
/-- The two Gets. -/
theorem get_agree (k : Nat) (may : S38 → Option Bool) (hmay : ∀ x, okC x → may x = some (mayC x)) (b : List Int) (hb : Hb b) : ∃ l e, class_Get.f k b = some (l, e) ∧ getT8 may b = some (l, e) := by
  have hr := get_range hb.1 0 1
  have hM : 0 ≤ (getS b 0 1).1 ∧ (getS b 0 1).1 ≤ 255 := ⟨hr.1, hr.2.2.1 rfl⟩
  have n1 := num_eq hb 1 0 (.inl rfl) (Int.le_refl _) (by omega)
  have n2 := numT_eq hb 1 0 (.inl rfl) (Int.le_refl _) (by omega)
  unfold class_Get.f getT8 manyG
  rw [n1, n2, Option.bind_some, Option.bind_some]
  simp only
  rw [if_pos hM]
  by_cases c : (getS b 0 1).2 = 0
  · by_cases c2 : (getS b 0 1).1 > 64
    · rw [if_pos ⟨c, c2⟩, if_pos ⟨c, c2⟩, manyL_stuck _ _ _ _ _ (show (3 : Int) ≠ 0 by decide), Option.bind_some]
      exact ⟨[], 3, by simp, rfl⟩
    · have hp := get_place (s := 1) (by decide) c
      rw [if_neg (fun h => c2 h.2), if_neg (fun h => c2 h.2), if_pos hM, c]
      obtain ⟨x, u, x', u', e, q1, q2, hq⟩ := manyL_agree (R1 := fun b t e => classG b t e) (R2 := fun b t e => nextT may b t e) (next_agree may hmay) hb (getS b 0 1).1.toNat [] (0 + 1) (by omega) (by omega)
      have q1' : manyL (classG b) (getS b 0 1).1.toNat [] (0 + 1) 0 = some (x, u, e) := q1
      have q2' : manyL (nextT may b) (getS b 0 1).1.toNat [] (0 + 1) 0 = some (x', u', e) := q2
      rw [q1', q2', Option.bind_some, Option.bind_some]
      by_cases c3 : e = 0
      · obtain ⟨rfl, rfl, _, _⟩ := hq c3
        exact ⟨_, _, rfl, rfl⟩
      · exact ⟨[], e, by simp [c3], by simp [c3]⟩
  · rw [if_neg (fun h => c h.1), if_neg (fun h => c h.1), if_pos hM, manyL_stuck _ _ _ _ _ c]
    (try rw [manyL_stuck _ _ _ _ _ c])
    simp only [Option.bind_some]
    exact ⟨[], _, by rw [if_neg c], by rw [if_neg c]⟩
end Go.Proofs.Ytjbpdmkalegacaa.EClassFresh
