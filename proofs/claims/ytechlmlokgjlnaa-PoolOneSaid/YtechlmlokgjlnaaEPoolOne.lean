/- What the functions of the law PoolOne come to, in plain words. -/
import Derived.Test.YtechlmlokgjlnaaPPoolOnex1
import Derived.Test.YtechlmlokgjlnaaPPoolOnex2
import Derived.Test.YtechlmlokgjlnaaSpec
import Derived.Test.YtechlmlokgjlnaaSpecPool
namespace Go.Proofs.Ytechlmlokgjlnaa.EPoolOne
open Go Go.RowKit Go.Proofs.Ytechlmlokgjlnaa.PPoolOne Go.Proofs.YtechlmlokgjlnaaW.PrintWords Go.Proofs.YtechlmlokgjlnaaW.PrintLast Go.Proofs.YtechlmlokgjlnaaW.PrintMore Go.Proofs.YtechlmlokgjlnaaW.Spec
set_option linter.unusedVariables false
set_option linter.unusedSimpArgs false

theorem Same_l0 (a b : List Int) (hl : a.length = b.length) (hn : a.length ≤ 4611686018427387904) : ∀ (d k i : Nat), i + d = a.length → d < k → garderoberef00_Same.l0 k a b (i : Int) = some (decide (a.drop i = b.drop i)) := by
  intro d
  induction d with
  | zero =>
    intro k i h hk
    obtain ⟨k, rfl⟩ : ∃ m, k = m + 1 := ⟨k - 1, by omega⟩
    simp only [garderoberef00_Same.l0]
    rw [if_neg (by omega), List.drop_eq_nil_of_le (by omega), List.drop_eq_nil_of_le (by omega)]
    simp
  | succ d ih =>
    intro k i h hk
    obtain ⟨k, rfl⟩ : ∃ m, k = m + 1 := ⟨k - 1, by omega⟩
    have h1 : i < a.length := by omega
    have h2 : i < b.length := by omega
    simp only [garderoberef00_Same.l0]
    rw [if_pos (by omega), if_pos (by omega), if_pos (by omega)]
    have hd : (a.drop i = b.drop i) ↔ (a[i] = b[i] ∧ a.drop (i + 1) = b.drop (i + 1)) := by
      rw [List.drop_eq_getElem_cons h1, List.drop_eq_getElem_cons h2, List.cons.injEq]
    have e1 : rd a (i : Int) = a[i] := by simp [rd, h1]
    have e2 : rd b (i : Int) = b[i] := by simp [rd, h2]
    rw [e1, e2]
    by_cases e : a[i] = b[i]
    · rw [if_pos e, wrap_id (by omega) (by omega), show ((i : Int) + 1) = ((i + 1 : Nat) : Int) from by omega, ih k (i + 1) (by omega) (by omega)]
      congr 1
      rw [decide_eq_decide, hd]
      exact ⟨fun h => ⟨e, h⟩, fun h => h.2⟩
    · rw [if_neg e]
      congr 1
      exact (decide_eq_false (fun h => e (hd.1 h).1)).symm
theorem Same_eq (k : Nat) (a b : List Int) (hk : a.length + 2 ≤ k) (hn : a.length ≤ 4611686018427387904) : garderoberef00_Same.f k a b = some (decide (a = b)) := by
  unfold garderoberef00_Same.f
  by_cases h : a.length = b.length
  · rw [if_pos (by omega)]
    have := Same_l0 a b h hn a.length k 0 (by omega) (by omega)
    simpa using this
  · rw [if_neg (by omega)]
    have : a ≠ b := fun e => h (by rw [e])
    simp [this]
theorem Same_refl (k : Nat) (a : List Int) (hk : a.length + 2 ≤ k) (hn : a.length ≤ 4611686018427387904) : garderoberef00_Same.f k a a = some true := by
  rw [Same_eq k a a hk hn]; simp

theorem put_l0_1 (k : Nat) (n : Int) : ends_Put.l0 (k + 5) n [0] 0 = some ([n % 256], 0) := by
  simp [ends_Put.l0, wrap64]
theorem put_l0_2 (k : Nat) (n : Int) : ends_Put.l0 (k + 5) n [0, 0] 1 = some ([n / 256 % 256, n % 256], 0) := by
  simp [ends_Put.l0, wrap64]
theorem put_l0_4 (k : Nat) (n : Int) : ends_Put.l0 (k + 5) n [0, 0, 0, 0] 3 = some ([n / 16777216 % 256, n / 65536 % 256, n / 256 % 256, n % 256], 0) := by
  simp [ends_Put.l0, wrap64, Int.ediv_ediv_of_nonneg]
theorem ends_Put_eq (k : Nat) (hk : 10 ≤ k) (n s : Int) (h : 0 ≤ n) (h' : n ≤ 4294967295) : ends_Put.f k n s = some (putS n s) := by
  obtain ⟨m, rfl⟩ : ∃ m, k = m + 10 := ⟨k - 10, by omega⟩
  unfold ends_Put.f ends_may.f
  have e8 : IntKind.u64.wrap (8 * IntKind.u64.wrap 1) = 8 := by decide
  have e16 : IntKind.u64.wrap (8 * IntKind.u64.wrap 2) = 16 := by decide
  by_cases h1 : s = 1
  · subst h1
    simp only [if_true, Option.bind_some, e8]
    have e : shr .u32 n 8 = n / 256 := by simp [shr, IntKind.bits]
    rw [if_pos (by decide), if_pos (by decide), e]
    by_cases h2 : n ≤ 255
    · have : n / 256 = 0 := by omega
      rw [this]
      simp [ends_Put.j0, h2, be, wrap64, putS, fits]
      rw [show m + 9 = (m + 4) + 5 from rfl, put_l0_1]
    · have : (n / 256 != 0) = true := by simp; omega
      rw [this]
      simp [ends_Put.j0, h2, putS, fits]
  · by_cases h2 : s = 2
    · subst h2
      have e : shr .u32 n 16 = n / 65536 := by simp [shr, IntKind.bits]
      simp [e16, e]
      by_cases h2 : n ≤ 65535
      · have : n / 65536 = 0 := by omega
        rw [this]
        simp [ends_Put.j0, h2, be, wrap64, putS, fits]
        rw [show m + 9 = (m + 4) + 5 from rfl, put_l0_2]
      · have : (n / 65536 != 0) = true := by simp; omega
        rw [this]
        simp [ends_Put.j0, h2, putS, fits]
    · by_cases h4 : s = 4
      · subst h4
        simp [ends_Put.j0, be, wrap64, putS, fits]
        rw [show m + 9 = (m + 4) + 5 from rfl, put_l0_4]
      · simp [h1, h2, h4, ends_Put.j0, putS, fits]

theorem ends_Part_eq (k : Nat) (hk : 5 ≤ k) (l : List Int) (a n : Int) (hl : l.length < 140737488355328) (ha : -9223372036854775808 ≤ a ∧ a ≤ 9223372036854775807) (hn : -9223372036854775808 ≤ n ∧ n ≤ 9223372036854775807) : ends_Part.f k l a n = some (partS l a n) := by
  obtain ⟨m, rfl⟩ : ∃ m, k = m + 1 := ⟨k - 1, by omega⟩
  unfold ends_Part.f partS
  by_cases h1 : a < 0
  · rw [if_pos h1, if_pos (by omega)]; simp [ends_Part.j0]
  · rw [if_neg h1]
    by_cases h2 : a > (l.length : Int)
    · rw [if_pos h2, if_pos (by omega)]; simp [ends_Part.j0]
    · rw [if_neg h2]
      by_cases h3 : n < 0
      · rw [if_pos (by omega)]; simp [ends_Part.j0, h3]
      · rw [if_neg (by omega)]
        simp only [ends_Part.j0]
        rw [if_neg (by simp; omega), wrap_id (n := (l.length : Int) - a) (by omega) (by omega)]
        by_cases h4 : (l.length : Int) - a < n
        · rw [if_pos h4, if_pos h4]
        · have hlen : ((l.take (a + n).toNat).drop a.toNat).length < 140737488355328 := by simp only [List.length_drop, List.length_take]; omega
          have hcut : (l.take (a + n).toNat).drop a.toNat = (l.drop a.toNat).take n.toNat := by rw [List.drop_take]; congr 1; omega
          rw [if_neg h4, if_neg h4, wrap_id (n := a + n) (by omega) (by omega), if_pos (by omega), if_pos (by omega), if_pos (by omega)]
          rw [hcut] at hlen ⊢
          unfold bytes_Clone.f
          simp only [Option.bind_some, List.length_nil, Nat.zero_add, List.nil_append]
          rw [if_pos hlen]
          rfl

theorem get_l0_0 (k : Nat) (e : Int) : ends_Get.l0 (k + 6) e 0 [] 0 0 = some (0, e) := by simp [ends_Get.l0]
theorem get_l0_1 (k : Nat) (e a : Int) (ha : 0 ≤ a ∧ a ≤ 255) : ends_Get.l0 (k + 6) e 0 [a] 1 0 = some (a, e) := by
  have h1 := or_byte (x := 0) (y := a) (by omega) (by omega) ha.1 ha.2
  simp [ends_Get.l0, wrap64, rd] at h1 ⊢
  rw [h1]
theorem get_l0_2 (k : Nat) (e a b : Int) (ha : 0 ≤ a ∧ a ≤ 255) (hb : 0 ≤ b ∧ b ≤ 255) : ends_Get.l0 (k + 6) e 0 [a, b] 2 0 = some (256 * a + b, e) := by
  have h1 := or_byte (x := 0) (y := a) (by omega) (by omega) ha.1 ha.2
  have h2 := or_byte (x := a) (y := b) (by omega) (by omega) hb.1 hb.2
  simp [ends_Get.l0, wrap64, rd] at h1 h2 ⊢
  rw [h1, h2]
theorem get_l0_4 (k : Nat) (e a b c d : Int) (ha : 0 ≤ a ∧ a ≤ 255) (hb : 0 ≤ b ∧ b ≤ 255) (hc : 0 ≤ c ∧ c ≤ 255) (hd : 0 ≤ d ∧ d ≤ 255) : ends_Get.l0 (k + 6) e 0 [a, b, c, d] 4 0 = some (256 * (256 * (256 * a + b) + c) + d, e) := by
  have h1 := or_byte (x := 0) (y := a) (by omega) (by omega) ha.1 ha.2
  have h2 := or_byte (x := a) (y := b) (by omega) (by omega) hb.1 hb.2
  have h3 := or_byte (x := 256 * a + b) (y := c) (by omega) (by omega) hc.1 hc.2
  have h4 := or_byte (x := 256 * (256 * a + b) + c) (y := d) (by omega) (by omega) hd.1 hd.2
  simp [ends_Get.l0, wrap64, rd] at h1 h2 h3 h4 ⊢
  rw [h1, h2, h3, h4]
theorem ends_Get_eq (k : Nat) (hk : 10 ≤ k) (l : List Int) (hb : Bytes l) (a s : Int) (hl : l.length < 140737488355328) (ha : -9223372036854775808 ≤ a ∧ a ≤ 9223372036854775807) (hn : -9223372036854775808 ≤ s ∧ s ≤ 9223372036854775807) : ends_Get.f k l a s = some (getS l a s) := by
  obtain ⟨m, rfl⟩ : ∃ m, k = m + 6 := ⟨k - 6, by omega⟩
  unfold ends_Get.f getS
  have hm : ends_may.f s = some (okSize s) := by
    unfold ends_may.f okSize
    by_cases h1 : s = 1
    · simp [h1]
    · by_cases h2 : s = 2
      · simp [h2]
      · by_cases h4 : s = 4 <;> simp [h1, h2, h4]
  rw [hm]
  simp only [Option.bind_some]
  by_cases ho : okSize s = true
  · rw [if_pos ho, if_pos ho, ends_Part_eq _ (by omega) l a s hl ha hn]
    simp only [Option.bind_some]
    have hp := part_bytes hb a s
    rcases part_cases l a ho with h | ⟨rfl, x, h⟩ | ⟨rfl, x, y, h⟩ | ⟨rfl, x, y, z, u, h⟩
    · rw [h]; exact get_l0_0 _ _
    · rw [h] at hp ⊢; rw [val_one]; exact get_l0_1 _ _ _ (hp x (by simp))
    · rw [h] at hp ⊢; rw [val_two]; exact get_l0_2 _ _ _ _ (hp x (by simp)) (hp y (by simp))
    · rw [h] at hp ⊢; rw [val_four]; exact get_l0_4 _ _ _ _ _ _ (hp x (by simp)) (hp y (by simp)) (hp z (by simp)) (hp u (by simp))
  · rw [if_neg ho, if_neg ho]

theorem pool_Split_eq (a : Int) (h0 : 0 ≤ a) (h1 : a < 65536) : pool_Split.f a = some (splitP a) := by
  unfold pool_Split.f splitP
  rw [and_hi h0 h1, andNot_hi h0 h1, and_lo h0 h1]
  by_cases h : a < 32768
  · rw [if_pos h, if_pos rfl, if_pos h, wrap_id (by omega) (by omega)]
  · rw [if_neg h, if_neg (by decide), if_neg h, wrap_id (by omega) (by omega), wrap_id (by omega) (by omega), show a % 32768 = a - 32768 from by omega]
theorem pool_Ref_eq (i : Bool) (n t : Int) : pool_Ref.f i n t = some (refP i n t) := by
  unfold pool_Ref.f refP
  have hw : ∀ x : Int, IntKind.u16.wrap x = x % 65536 := fun x => by simp [IntKind.wrap, IntKind.bits, IntKind.signed]
  cases i with
  | true =>
    rw [if_pos rfl, if_pos rfl]
    simp only [hw]
    have hr := or_hi (a := n % 65536 * 256 % 65536) (b := t % 65536) (by omega) (by omega) (by omega) (by omega)
    obtain ⟨X, hX⟩ : ∃ X_ : Int, X_ = Go.bits .or .u16 (Go.bits .or .u16 32768 (n % 65536 * 256 % 65536)) (t % 65536) := ⟨_, rfl⟩
    rw [← hX] at hr ⊢
    rw [pool_Split_eq X (by omega) (by omega)]
    unfold splitP
    rw [if_neg (by omega)]
    simp only [Option.bind_some]
    rw [if_neg (by decide)]
    by_cases h : 0 ≤ n ∧ n ≤ 127 ∧ 0 ≤ t ∧ t ≤ 255
    · rw [if_pos h]
      have hv := or_join (n := n) (t := t) (by omega) (by omega) (by omega) (by omega)
      rw [show n * 256 = n % 65536 * 256 % 65536 from by omega, show Go.bits .or .u16 (Go.bits .or .u16 32768 (n % 65536 * 256 % 65536)) t = X from by rw [hX]; congr 1; omega] at hv
      rw [if_pos (by omega), if_pos (by omega), hv]
    · rw [if_neg h]
      by_cases h1 : (X - 32768) / 256 = n
      · rw [if_pos h1, if_neg (by omega)]
      · rw [if_neg h1]
  | false =>
    rw [if_neg (by decide), if_neg (by decide), hw, pool_Split_eq _ (by omega) (by omega)]
    unfold splitP
    by_cases h : n % 65536 < 32768
    · rw [if_pos h]
      simp only [Option.bind_some]
      rw [if_neg (by decide)]
      by_cases h2 : 0 ≤ n ∧ n < 32768 ∧ t = 0
      · rw [if_pos h2, if_pos (by omega), if_pos (by omega), show n % 65536 = n from by omega]
      · rw [if_neg h2]
        by_cases h1 : n % 65536 = n
        · rw [if_pos h1, if_neg (by omega)]
        · rw [if_neg h1]
    · rw [if_neg h]
      simp only [Option.bind_some]
      rw [if_pos (by decide), if_neg (by omega)]

theorem pool_w_eq {b c : Int} (hb : 0 ≤ b ∧ b ≤ 255) (hc : 0 ≤ c ∧ c ≤ 255) : pool_w b c = 256 * b + c := or_w hb.1 hb.2 hc.1 hc.2
def okE (e : S43) : Prop := (0 ≤ e.f0 ∧ e.f0 ≤ 255) ∧ (0 ≤ e.f1 ∧ e.f1 ≤ 65535) ∧ (0 ≤ e.f2 ∧ e.f2 ≤ 255) ∧ (0 ≤ e.f4 ∧ e.f4 ≤ 65535) ∧ (0 ≤ e.f5 ∧ e.f5 ≤ 255) ∧ (0 ≤ e.f6 ∧ e.f6 ≤ 255)
def mayE (e : S43) : Bool :=
  if e.f0 = 1 then e.f2 == 0 && (!e.f3 && (e.f4 == 0 && (e.f5 == 0 && e.f6 == 0)))
  else if e.f0 = 2 ∨ e.f0 = 3 ∨ e.f0 = 4 then !e.f3 && (e.f4 == 0 && (e.f5 == 0 && e.f6 == 0))
  else if e.f0 = 5 ∨ e.f0 = 6 then (if e.f3 = true then e.f1 == 0 && (e.f2 == 0 && (e.f5 == 0 && e.f6 == 0)) else e.f1 == 0 && (e.f4 == 0 && decide (e.f5 < 128)))
  else false
def encE (e : S43) : List Int := if e.f0 ≤ 4 then [e.f0, e.f1 / 256 % 256, e.f1 % 256, e.f2] else if e.f3 = true then [e.f0, 0, e.f4 / 256 % 256, e.f4 % 256] else [e.f0, (128 + e.f5) % 256, e.f6, e.f2]
def putP (l : List S43) : List Int × Int := if l.all mayE = true then (if l.length > 255 then ([], 3) else ([0, (l.length : Int)] ++ l.flatMap encE, 0)) else ([], 2)
theorem lay_cases (a : Int) : (a = 1 ∧ pool_lay a = 1) ∨ ((a = 2 ∨ a = 3 ∨ a = 4) ∧ pool_lay a = 2) ∨ ((a = 5 ∨ a = 6) ∧ pool_lay a = 3) ∨ ((a ≠ 1 ∧ a ≠ 2 ∧ a ≠ 3 ∧ a ≠ 4 ∧ a ≠ 5 ∧ a ≠ 6) ∧ pool_lay a = 0) := by
  unfold pool_lay
  by_cases h1 : a = 1
  · simp [h1]
  · rw [if_neg h1]
    by_cases h2 : a = 2 ∨ a = 3 ∨ a = 4
    · simp [h2]
    · rw [if_neg h2]
      by_cases h3 : a = 5 ∨ a = 6
      · simp [h3]
      · rw [if_neg h3]
        exact .inr (.inr (.inr ⟨by omega, rfl⟩))

theorem pool_ok (e : S43) (h : okE e) : ((pool_dec (pool_enc e).1 (pool_enc e).2.1 (pool_enc e).2.2.1 (pool_enc e).2.2.2).2 = true ∧ pool_same (pool_dec (pool_enc e).1 (pool_enc e).2.1 (pool_enc e).2.2.1 (pool_enc e).2.2.2).1 e = true) ↔ mayE e = true := by
  obtain ⟨f0, f1, f2, f3, f4, f5, f6⟩ := e
  obtain ⟨h0, h1, h2, h4, h5, h6⟩ := h
  simp only at h0 h1 h2 h4 h5 h6
  have hw1 : pool_w (f1 / 256 % 256) (f1 % 256) = f1 := by rw [pool_w_eq (by omega) (by omega)]; omega
  have hw4 : pool_w (f4 / 256 % 256) (f4 % 256) = f4 := by rw [pool_w_eq (by omega) (by omega)]; omega
  have z : (0 : Int) = f1 ↔ f1 = 0 := eq_comm
  rcases lay_cases f0 with ⟨a, b⟩ | ⟨a, b⟩ | ⟨a, b⟩ | ⟨a, b⟩
  · subst a
    simp [pool_enc, pool_dec, b, hw1, pool_same, mayE]
    grind
  · have a1 : f0 ≠ 1 := by omega
    simp [pool_enc, pool_dec, b, hw1, pool_same, mayE, a, a1]
    grind
  · have a1 : f0 ≠ 1 := by omega
    have a2 : ¬ (f0 = 2 ∨ f0 = 3 ∨ f0 = 4) := by omega
    cases f3 with
    | true =>
      simp [pool_enc, pool_dec, b, hw4, pool_same, mayE, a, a1, a2]
      constructor
      · rintro ⟨⟨⟨rfl, rfl⟩, rfl⟩, rfl⟩; simp
      · rintro ⟨rfl, rfl, rfl, rfl⟩; simp
    | false =>
      have ho := or_u8 h5.1 h5.2
      have ho' : Go.bits .or .u8 128 f5 ≠ 0 := by rw [ho]; split <;> omega
      have hr : 0 ≤ Go.bits .or .u8 128 f5 ∧ Go.bits .or .u8 128 f5 ≤ 255 := by rw [ho]; split <;> omega
      have hn := andNot_u8 hr.1 hr.2
      have ha := and_u8 hr.1 hr.2
      have hg : ¬ Go.bits .or .u8 128 f5 < 128 := by rw [ho]; split <;> omega
      rw [if_neg hg] at ha
      have hm : Go.bits .or .u8 128 f5 % 128 = f5 ↔ f5 < 128 := by rw [ho]; split <;> omega
      simp [pool_enc, pool_dec, b, pool_same, mayE, a, a1, a2, ho', hn, ha, hm]
      constructor
      · rintro ⟨⟨rfl, rfl⟩, k⟩; exact ⟨rfl, rfl, k⟩
      · rintro ⟨rfl, rfl, k⟩; exact ⟨⟨rfl, rfl⟩, k⟩
  · obtain ⟨a1, a2, a3, a4, a5, a6⟩ := a
    simp [pool_enc, pool_dec, b, mayE, a1, a2, a3, a4, a5, a6]
theorem pool_enc_eq (e : S43) (h : okE e) (hm : mayE e = true) : [(pool_enc e).1, (pool_enc e).2.1, (pool_enc e).2.2.1, (pool_enc e).2.2.2] = encE e := by
  obtain ⟨f0, f1, f2, f3, f4, f5, f6⟩ := e
  obtain ⟨h0, h1, h2, h4, h5, h6⟩ := h
  simp only at h0 h1 h2 h4 h5 h6
  rcases lay_cases f0 with ⟨a, b⟩ | ⟨a, b⟩ | ⟨a, b⟩ | ⟨a, b⟩
  · subst a
    simp [pool_enc, b, encE]
  · have a1 : f0 ≤ 4 := by omega
    simp [pool_enc, b, encE, a1]
  · have a1 : ¬ f0 ≤ 4 := by omega
    have a2 : f0 ≠ 1 := by omega
    have a3 : ¬ (f0 = 2 ∨ f0 = 3 ∨ f0 = 4) := by omega
    cases f3 with
    | true => simp [pool_enc, b, encE, a1]
    | false =>
      simp [mayE, a, a2, a3] at hm
      have ho := or_u8 h5.1 h5.2
      rw [if_pos hm.2.2] at ho
      simp [pool_enc, b, encE, a1, ho]
      omega
  · obtain ⟨a1, a2, a3, a4, a5, a6⟩ := a
    simp [mayE, a1, a2, a3, a4, a5, a6] at hm
theorem put_all (l : List S43) : ∀ acc : List Int, (∀ e ∈ l, okE e) → pool_Put.all l acc = if l.all mayE = true then (acc ++ l.flatMap encE, 0) else ([], 2) := by
  induction l with
  | nil => intro acc h; simp [pool_Put.all]
  | cons e r ih =>
    intro acc h
    unfold pool_Put.all
    by_cases hm : mayE e = true
    · rw [if_pos ((pool_ok e (h e (by simp))).2 hm), ih _ (fun x hx => h x (by simp [hx])), pool_enc_eq e (h e (by simp)) hm]
      simp [hm]
    · rw [if_neg (fun k => hm ((pool_ok e (h e (by simp))).1 k))]
      simp [hm]
theorem pool_Put_eq (k : Nat) (l : List S43) (h : ∀ e ∈ l, okE e) (hl : l.length ≤ 14073748835532) : pool_Put.f k l = some (putP l) := by
  unfold pool_Put.f putP
  rw [if_pos hl, put_all l [] h]
  by_cases hm : l.all mayE = true
  · rw [if_pos hm, if_pos rfl, if_pos hm]
    by_cases hb : l.length > 255
    · rw [if_pos hb, if_pos hb]
    · rw [if_neg hb, if_neg hb, show ((l.length : Int) % 4294967296) = (l.length : Int) from by omega, ends_Put_eq 20 (by decide) _ _ (by omega) (by omega)]
      have hf : fits (l.length : Int) 2 = true := by simp [fits]; omega
      simp [putS, hf, be]
      omega
  · rw [if_neg hm, if_neg (by decide), if_neg hm]

theorem enc_length (e : S43) : (encE e).length = 4 := by unfold encE; (repeat' split) <;> rfl
theorem encs_length (l : List S43) : (l.flatMap encE).length = 4 * l.length := by
  induction l with
  | nil => rfl
  | cons a r ih => rw [List.flatMap_cons, List.length_append, ih, enc_length, List.length_cons]; omega
theorem enc_bytes (e : S43) (h : okE e) : Bytes (encE e) := by
  obtain ⟨h0, h1, h2, h4, h5, h6⟩ := h
  unfold encE
  (repeat' split) <;> (intro x hx; simp at hx; omega)
theorem encs_bytes (l : List S43) (h : ∀ e ∈ l, okE e) : Bytes (l.flatMap encE) := by
  intro x hx
  obtain ⟨e, he, hx⟩ := List.mem_flatMap.1 hx
  exact enc_bytes e (h e he) x hx
theorem same_eq {d e : S43} (h : pool_same d e = true) : d = e := by
  obtain ⟨d0, d1, d2, d3, d4, d5, d6⟩ := d
  obtain ⟨e0, e1, e2, e3, e4, e5, e6⟩ := e
  simp [pool_same] at h
  simp [h]
theorem dec_enc (e : S43) (h : okE e) (hm : mayE e = true) : ∃ c0 c1 c2 c3, encE e = [c0, c1, c2, c3] ∧ pool_dec c0 c1 c2 c3 = (e, true) := by
  refine ⟨_, _, _, _, (pool_enc_eq e h hm).symm, ?_⟩
  obtain ⟨h1, h2⟩ := (pool_ok e h).2 hm
  exact Prod.ext (same_eq h2) h1
theorem enc_dec {c0 c1 c2 c3 : Int} (h0 : 0 ≤ c0 ∧ c0 ≤ 255) (h1 : 0 ≤ c1 ∧ c1 ≤ 255) (h2 : 0 ≤ c2 ∧ c2 ≤ 255) (h3 : 0 ≤ c3 ∧ c3 ≤ 255) (h : (pool_dec c0 c1 c2 c3).2 = true) :
    okE (pool_dec c0 c1 c2 c3).1 ∧ mayE (pool_dec c0 c1 c2 c3).1 = true ∧ encE (pool_dec c0 c1 c2 c3).1 = [c0, c1, c2, c3] := by
  have hw1 := pool_w_eq h1 h2
  have hw2 := pool_w_eq h2 h3
  rcases lay_cases c0 with ⟨a, b⟩ | ⟨a, b⟩ | ⟨a, b⟩ | ⟨a, b⟩
  · subst a
    simp [pool_dec, b, hw1] at h
    subst h
    simp [pool_dec, b, hw1, okE, mayE, encE]
    omega
  · have a1 : c0 ≠ 1 := by omega
    have a2 : c0 ≤ 4 := by omega
    simp [pool_dec, b, hw1, okE, mayE, encE, a, a1, a2]
    omega
  · have a1 : c0 ≠ 1 := by omega
    have a2 : ¬ (c0 = 2 ∨ c0 = 3 ∨ c0 = 4) := by omega
    have a3 : ¬ c0 ≤ 4 := by omega
    by_cases z : c1 = 0
    · subst z
      simp [pool_dec, b, hw2, okE, mayE, encE, a, a1, a2, a3]
      omega
    · have ha := and_u8 h1.1 h1.2
      have hn := andNot_u8 h1.1 h1.2
      simp [pool_dec, b, z, ha] at h
      simp [pool_dec, b, z, hn, okE, mayE, encE, a, a1, a2, a3]
      omega
  · simp [pool_dec, b] at h
theorem loop_enc (l : List S43) (h : ∀ e ∈ l, okE e) (hm : l.all mayE = true) : ∀ (pre : List Int) (acc : List S43), (pre ++ l.flatMap encE).length < 140737488355328 → pool_Get.loop (pre ++ l.flatMap encE) l.length (pre.length : Int) acc = some (acc ++ l, 0) := by
  induction l with
  | nil =>
    intro pre acc hl
    simp [pool_Get.loop]
  | cons e r ih =>
    intro pre acc hl
    rw [List.all_cons, Bool.and_eq_true] at hm
    obtain ⟨c0, c1, c2, c3, he, hd⟩ := dec_enc e (h e (by simp)) hm.1
    have hp := part_mid pre (encE e) (r.flatMap encE)
    rw [enc_length, List.append_assoc, ← List.flatMap_cons] at hp
    rw [List.length_cons]
    unfold pool_Get.loop
    have hlen : (pre.length : Int) ≤ 9223372036854775807 := by simp at hl; omega
    rw [ends_Part_eq 10 (by decide) _ _ _ hl (by omega) (by omega), show (4 : Int) = ((4 : Nat) : Int) from rfl, hp]
    simp only [Option.bind_some]
    rw [if_pos trivial, he, if_pos (show [c0, c1, c2, c3].length = 4 from rfl)]
    have e0 : rd [c0, c1, c2, c3] 0 = c0 := rfl
    have e1 : rd [c0, c1, c2, c3] 1 = c1 := rfl
    have e2 : rd [c0, c1, c2, c3] 2 = c2 := rfl
    have e3 : rd [c0, c1, c2, c3] 3 = c3 := rfl
    rw [e0, e1, e2, e3, hd, if_pos rfl]
    have := ih (fun x hx => h x (by simp [hx])) hm.2 (pre ++ encE e) (acc ++ [e]) (by simpa using hl)
    rw [List.append_assoc, ← List.flatMap_cons, List.length_append, enc_length, List.append_assoc] at this
    exact this
theorem loop_back (b : List Int) (hb : Bytes b) (hl : b.length < 140737488355328) : ∀ (n a : Nat) (acc : List S43), a ≤ b.length → n ≤ 255 →
    ∃ m f, pool_Get.loop b n (a : Int) acc = some (m, f) ∧ (f = 0 → ∃ r, m = acc ++ r ∧ r.length = n ∧ r.all mayE = true ∧ (∀ e ∈ r, okE e) ∧ b.drop a = r.flatMap encE) := by
  intro n
  induction n with
  | zero =>
    intro a acc ha _
    unfold pool_Get.loop
    by_cases h : (a : Int) < (b.length : Int)
    · rw [if_pos h]; exact ⟨_, _, rfl, fun h => by cases h⟩
    · rw [if_neg h]
      exact ⟨_, _, rfl, fun _ => ⟨[], by simp, rfl, rfl, by simp, by rw [List.drop_eq_nil_of_le (by omega)]; rfl⟩⟩
  | succ n ih =>
    intro a acc ha hn
    unfold pool_Get.loop
    rw [ends_Part_eq 10 (by decide) _ _ _ hl (by omega) (by omega)]
    simp only [Option.bind_some]
    by_cases hp : (partS b (a : Int) 4).2 = 0
    · obtain ⟨_, _, hle, hcut, hlen⟩ := part_length hp
      have hpb := part_bytes hb (a : Int) 4
      rw [if_pos hp, if_pos (by rw [hlen]; rfl)]
      obtain ⟨c0, c1, c2, c3, hc⟩ : ∃ c0 c1 c2 c3, (partS b (a : Int) 4).1 = [c0, c1, c2, c3] := by
        match h : (partS b (a : Int) 4).1, hlen with
        | [c0, c1, c2, c3], _ => exact ⟨_, _, _, _, rfl⟩
      rw [hc] at hpb hcut ⊢
      have e0 : rd [c0, c1, c2, c3] 0 = c0 := rfl
      have e1 : rd [c0, c1, c2, c3] 1 = c1 := rfl
      have e2 : rd [c0, c1, c2, c3] 2 = c2 := rfl
      have e3 : rd [c0, c1, c2, c3] 3 = c3 := rfl
      rw [e0, e1, e2, e3]
      by_cases hd : (pool_dec c0 c1 c2 c3).2 = true
      · rw [if_pos hd]
        obtain ⟨k1, k2, k3⟩ := enc_dec (hpb c0 (by simp)) (hpb c1 (by simp)) (hpb c2 (by simp)) (hpb c3 (by simp)) hd
        obtain ⟨m, f, hq, hf⟩ := ih (a + 4) (acc ++ [(pool_dec c0 c1 c2 c3).1]) (by omega) (by omega)
        refine ⟨m, f, by rw [← hq]; congr 1, fun hz => ?_⟩
        obtain ⟨r, q1, q2, q3, q4, q5⟩ := hf hz
        refine ⟨(pool_dec c0 c1 c2 c3).1 :: r, by rw [q1]; simp, by simp [q2], by rw [List.all_cons, k2, q3]; rfl, ?_, ?_⟩
        · intro e he
          rcases List.mem_cons.1 he with rfl | he
          · exact k1
          · exact q4 e he
        · rw [List.flatMap_cons, k3, ← q5, hcut]
          show b.drop a = (b.drop a).take 4 ++ b.drop (a + 4)
          rw [← List.drop_drop, List.take_append_drop]
      · rw [if_neg hd]; exact ⟨_, _, rfl, fun h => by cases h⟩
    · rw [if_neg hp]; exact ⟨_, _, rfl, fun h => by cases h⟩
theorem get_two {b : List Int} (h : (getS b 0 2).2 = 0) : ∃ x y r, b = x :: y :: r ∧ (getS b 0 2).1 = 256 * x + y := by
  unfold getS at h ⊢
  rw [if_pos (by decide)] at h ⊢
  obtain ⟨_, _, hle, hcut, hlen⟩ := part_length h
  match b, hle with
  | x :: y :: r, _ => exact ⟨x, y, r, rfl, by rw [hcut]; exact val_two x y⟩
/-- what comes out of bytes: no fault of the machine, and entries that may be, that are those bytes. -/
theorem pool_Get_back (k : Nat) (b : List Int) (hb : Bytes b) (hl : b.length < 140737488355328) :
    ∃ m f, pool_Get.f k b = some (m, f) ∧ (f = 0 → (∀ e ∈ m, okE e) ∧ m.length ≤ 255 ∧ putP m = (b, 0)) := by
  unfold pool_Get.f
  rw [ends_Get_eq 20 (by decide) b hb 0 2 hl (by omega) (by omega)]
  simp only [Option.bind_some]
  by_cases h0 : (getS b 0 2).2 = 0
  · rw [if_pos h0]
    have hr := get_range hb 0 2
    by_cases h1 : (getS b 0 2).1 > 255
    · rw [if_pos h1]; exact ⟨_, _, rfl, fun h => by cases h⟩
    · rw [if_neg h1, if_pos hr.1]
      obtain ⟨x, y, r, rfl, hv⟩ := get_two h0
      have hx := hb x (by simp)
      have hy := hb y (by simp)
      obtain ⟨m, f, hq, hf⟩ := loop_back (x :: y :: r) hb hl (getS (x :: y :: r) 0 2).1.toNat 2 [] (by simp) (by omega)
      refine ⟨m, f, hq, fun hz => ?_⟩
      obtain ⟨s, q1, q2, q3, q4, q5⟩ := hf hz
      rw [List.nil_append] at q1
      subst q1
      refine ⟨q4, by omega, ?_⟩
      unfold putP
      rw [if_pos q3, if_neg (by omega), ← q5]
      have z0 : x = 0 := by omega
      have z1 : (m.length : Int) = y := by omega
      rw [z0, z1]
      rfl
  · rw [if_neg h0]
    exact ⟨_, _, rfl, fun h => absurd h h0⟩
theorem pool_Get_put (k : Nat) (l : List S43) (h : ∀ e ∈ l, okE e) (hp : (putP l).2 = 0) : pool_Get.f k (putP l).1 = some (l, 0) ∧ l.length ≤ 255 ∧ (putP l).1.length = 2 + 4 * l.length := by
  unfold putP at hp ⊢
  by_cases hm : l.all mayE = true
  · rw [if_pos hm] at hp ⊢
    by_cases hb : l.length > 255
    · rw [if_pos hb] at hp; cases hp
    · rw [if_neg hb] at hp ⊢
      have hlen := encs_length l
      have hl : ([0, (l.length : Int)] ++ l.flatMap encE).length < 140737488355328 := by rw [List.length_append, hlen]; simp; omega
      have hq := loop_enc l h hm [0, (l.length : Int)] [] hl
      have hv : getS ([0, (l.length : Int)] ++ l.flatMap encE) 0 2 = ((l.length : Int), 0) := by
        have p1 := part_mid [] [0, (l.length : Int)] (l.flatMap encE)
        unfold getS
        rw [if_pos (by decide)]
        simp only [List.nil_append, List.length_nil, List.length_cons] at p1
        have p2 : partS ([0, (l.length : Int)] ++ l.flatMap encE) 0 2 = ([0, (l.length : Int)], 0) := p1
        rw [p2, val_two]
        simp
      have hby : Bytes [0, (l.length : Int)] := by
        intro x hx
        simp at hx
        omega
      refine ⟨?_, by omega, by simp only [List.length_append, hlen]; simp⟩
      unfold pool_Get.f
      have hg : ends_Get.f 20 ([0, (l.length : Int)] ++ l.flatMap encE) 0 2 = some ((l.length : Int), 0) := by
        rw [← hv]
        exact ends_Get_eq 20 (by decide) _ (bytes_append hby (encs_bytes l h)) 0 2 hl (by omega) (by omega)
      rw [hg]
      simp only [Option.bind_some]
      rw [if_pos trivial, if_neg (by omega), if_pos (by omega), Int.toNat_natCast]
      exact hq
  · rw [if_neg hm] at hp; cases hp

end Go.Proofs.Ytechlmlokgjlnaa.EPoolOne
