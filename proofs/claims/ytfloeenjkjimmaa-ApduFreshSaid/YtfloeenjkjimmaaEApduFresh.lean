/- What the functions of the law ApduFresh come to, in plain words. -/
import Derived.Test.YtfloeenjkjimmaaPApduFreshx1
import Derived.Test.YtfloeenjkjimmaaPApduFreshx2
import Derived.Test.YtfloeenjkjimmaaPApduFreshx3
import Derived.Test.YtfloeenjkjimmaaPApduFreshx4
import Derived.Test.YtfloeenjkjimmaaPApduFreshx5
import Derived.Test.YtfloeenjkjimmaaSpec
import Derived.Test.YtfloeenjkjimmaaSpecApdu
namespace Go.Proofs.Ytfloeenjkjimmaa.EApduFresh
open Go Go.RowKit Go.Proofs.Ytfloeenjkjimmaa.PApduFresh Go.Proofs.YtfloeenjkjimmaaW.PrintWords Go.Proofs.YtfloeenjkjimmaaW.PrintLast Go.Proofs.YtfloeenjkjimmaaW.PrintMore Go.Proofs.YtfloeenjkjimmaaW.Spec
set_option linter.unusedVariables false
set_option linter.unusedSimpArgs false

theorem Same_l0 (a b : List Int) (hl : a.length = b.length) (hn : a.length ≤ 4611686018427387904) : ∀ (d k i : Nat), i + d = a.length → d < k → garderoberef00_Same.l0 k a b (i : Int) = some (decide (a.drop i = b.drop i)) := by
  intro d
  induction d with
  | zero =>
    intro k i h hk
    obtain ⟨k, rfl⟩ : ∃ m, k = m + 1 := ⟨k - 1, by omega⟩
    simp only [garderoberef00_Same.l0]
    rw [if_neg (by omega), List.drop_eq_nil_of_le (by omega), List.drop_eq_nil_of_le (by omega)]
    simp
  | succ d ih =>
    intro k i h hk
    obtain ⟨k, rfl⟩ : ∃ m, k = m + 1 := ⟨k - 1, by omega⟩
    have h1 : i < a.length := by omega
    have h2 : i < b.length := by omega
    simp only [garderoberef00_Same.l0]
    rw [if_pos (by omega), if_pos (by omega), if_pos (by omega)]
    have hd : (a.drop i = b.drop i) ↔ (a[i] = b[i] ∧ a.drop (i + 1) = b.drop (i + 1)) := by
      rw [List.drop_eq_getElem_cons h1, List.drop_eq_getElem_cons h2, List.cons.injEq]
    have e1 : rd a (i : Int) = a[i] := by simp [rd, h1]
    have e2 : rd b (i : Int) = b[i] := by simp [rd, h2]
    rw [e1, e2]
    by_cases e : a[i] = b[i]
    · rw [if_pos e, wrap_id (by omega) (by omega), show ((i : Int) + 1) = ((i + 1 : Nat) : Int) from by omega, ih k (i + 1) (by omega) (by omega)]
      congr 1
      rw [decide_eq_decide, hd]
      exact ⟨fun h => ⟨e, h⟩, fun h => h.2⟩
    · rw [if_neg e]
      congr 1
      exact (decide_eq_false (fun h => e (hd.1 h).1)).symm
theorem Same_eq (k : Nat) (a b : List Int) (hk : a.length + 2 ≤ k) (hn : a.length ≤ 4611686018427387904) : garderoberef00_Same.f k a b = some (decide (a = b)) := by
  unfold garderoberef00_Same.f
  by_cases h : a.length = b.length
  · rw [if_pos (by omega)]
    have := Same_l0 a b h hn a.length k 0 (by omega) (by omega)
    simpa using this
  · rw [if_neg (by omega)]
    have : a ≠ b := fun e => h (by rw [e])
    simp [this]
theorem Same_refl (k : Nat) (a : List Int) (hk : a.length + 2 ≤ k) (hn : a.length ≤ 4611686018427387904) : garderoberef00_Same.f k a a = some true := by
  rw [Same_eq k a a hk hn]; simp

theorem put_l0_1 (k : Nat) (n : Int) : ends_Put.l0 (k + 5) n [0] 0 = some ([n % 256], 0) := by
  simp [ends_Put.l0, wrap64]
theorem put_l0_2 (k : Nat) (n : Int) : ends_Put.l0 (k + 5) n [0, 0] 1 = some ([n / 256 % 256, n % 256], 0) := by
  simp [ends_Put.l0, wrap64]
theorem put_l0_4 (k : Nat) (n : Int) : ends_Put.l0 (k + 5) n [0, 0, 0, 0] 3 = some ([n / 16777216 % 256, n / 65536 % 256, n / 256 % 256, n % 256], 0) := by
  simp [ends_Put.l0, wrap64, Int.ediv_ediv_of_nonneg]
theorem ends_Put_eq (k : Nat) (hk : 10 ≤ k) (n s : Int) (h : 0 ≤ n) (h' : n ≤ 4294967295) : ends_Put.f k n s = some (putS n s) := by
  obtain ⟨m, rfl⟩ : ∃ m, k = m + 10 := ⟨k - 10, by omega⟩
  unfold ends_Put.f ends_may.f
  have e8 : IntKind.u64.wrap (8 * IntKind.u64.wrap 1) = 8 := by decide
  have e16 : IntKind.u64.wrap (8 * IntKind.u64.wrap 2) = 16 := by decide
  by_cases h1 : s = 1
  · subst h1
    simp only [if_true, Option.bind_some, e8]
    have e : shr .u32 n 8 = n / 256 := by simp [shr, IntKind.bits]
    rw [if_pos (by decide), if_pos (by decide), e]
    by_cases h2 : n ≤ 255
    · have : n / 256 = 0 := by omega
      rw [this]
      simp [ends_Put.j0, h2, be, wrap64, putS, fits]
      rw [show m + 9 = (m + 4) + 5 from rfl, put_l0_1]
    · have : (n / 256 != 0) = true := by simp; omega
      rw [this]
      simp [ends_Put.j0, h2, putS, fits]
  · by_cases h2 : s = 2
    · subst h2
      have e : shr .u32 n 16 = n / 65536 := by simp [shr, IntKind.bits]
      simp [e16, e]
      by_cases h2 : n ≤ 65535
      · have : n / 65536 = 0 := by omega
        rw [this]
        simp [ends_Put.j0, h2, be, wrap64, putS, fits]
        rw [show m + 9 = (m + 4) + 5 from rfl, put_l0_2]
      · have : (n / 65536 != 0) = true := by simp; omega
        rw [this]
        simp [ends_Put.j0, h2, putS, fits]
    · by_cases h4 : s = 4
      · subst h4
        simp [ends_Put.j0, be, wrap64, putS, fits]
        rw [show m + 9 = (m + 4) + 5 from rfl, put_l0_4]
      · simp [h1, h2, h4, ends_Put.j0, putS, fits]

theorem ends_Part_eq (k : Nat) (hk : 5 ≤ k) (l : List Int) (a n : Int) (hl : l.length < 140737488355328) (ha : -9223372036854775808 ≤ a ∧ a ≤ 9223372036854775807) (hn : -9223372036854775808 ≤ n ∧ n ≤ 9223372036854775807) : ends_Part.f k l a n = some (partS l a n) := by
  obtain ⟨m, rfl⟩ : ∃ m, k = m + 1 := ⟨k - 1, by omega⟩
  unfold ends_Part.f partS
  by_cases h1 : a < 0
  · rw [if_pos h1, if_pos (by omega)]; simp [ends_Part.j0]
  · rw [if_neg h1]
    by_cases h2 : a > (l.length : Int)
    · rw [if_pos h2, if_pos (by omega)]; simp [ends_Part.j0]
    · rw [if_neg h2]
      by_cases h3 : n < 0
      · rw [if_pos (by omega)]; simp [ends_Part.j0, h3]
      · rw [if_neg (by omega)]
        simp only [ends_Part.j0]
        rw [if_neg (by simp; omega), wrap_id (n := (l.length : Int) - a) (by omega) (by omega)]
        by_cases h4 : (l.length : Int) - a < n
        · rw [if_pos h4, if_pos h4]
        · have hlen : ((l.take (a + n).toNat).drop a.toNat).length < 140737488355328 := by simp only [List.length_drop, List.length_take]; omega
          have hcut : (l.take (a + n).toNat).drop a.toNat = (l.drop a.toNat).take n.toNat := by rw [List.drop_take]; congr 1; omega
          rw [if_neg h4, if_neg h4, wrap_id (n := a + n) (by omega) (by omega), if_pos (by omega), if_pos (by omega), if_pos (by omega)]
          rw [hcut] at hlen ⊢
          unfold bytes_Clone.f
          simp only [Option.bind_some, List.length_nil, Nat.zero_add, List.nil_append]
          rw [if_pos hlen]
          rfl

theorem get_l0_0 (k : Nat) (e : Int) : ends_Get.l0 (k + 6) e 0 [] 0 0 = some (0, e) := by simp [ends_Get.l0]
theorem get_l0_1 (k : Nat) (e a : Int) (ha : 0 ≤ a ∧ a ≤ 255) : ends_Get.l0 (k + 6) e 0 [a] 1 0 = some (a, e) := by
  have h1 := or_byte (x := 0) (y := a) (by omega) (by omega) ha.1 ha.2
  simp [ends_Get.l0, wrap64, rd] at h1 ⊢
  rw [h1]
theorem get_l0_2 (k : Nat) (e a b : Int) (ha : 0 ≤ a ∧ a ≤ 255) (hb : 0 ≤ b ∧ b ≤ 255) : ends_Get.l0 (k + 6) e 0 [a, b] 2 0 = some (256 * a + b, e) := by
  have h1 := or_byte (x := 0) (y := a) (by omega) (by omega) ha.1 ha.2
  have h2 := or_byte (x := a) (y := b) (by omega) (by omega) hb.1 hb.2
  simp [ends_Get.l0, wrap64, rd] at h1 h2 ⊢
  rw [h1, h2]
theorem get_l0_4 (k : Nat) (e a b c d : Int) (ha : 0 ≤ a ∧ a ≤ 255) (hb : 0 ≤ b ∧ b ≤ 255) (hc : 0 ≤ c ∧ c ≤ 255) (hd : 0 ≤ d ∧ d ≤ 255) : ends_Get.l0 (k + 6) e 0 [a, b, c, d] 4 0 = some (256 * (256 * (256 * a + b) + c) + d, e) := by
  have h1 := or_byte (x := 0) (y := a) (by omega) (by omega) ha.1 ha.2
  have h2 := or_byte (x := a) (y := b) (by omega) (by omega) hb.1 hb.2
  have h3 := or_byte (x := 256 * a + b) (y := c) (by omega) (by omega) hc.1 hc.2
  have h4 := or_byte (x := 256 * (256 * a + b) + c) (y := d) (by omega) (by omega) hd.1 hd.2
  simp [ends_Get.l0, wrap64, rd] at h1 h2 h3 h4 ⊢
  rw [h1, h2, h3, h4]
theorem ends_Get_eq (k : Nat) (hk : 10 ≤ k) (l : List Int) (hb : Bytes l) (a s : Int) (hl : l.length < 140737488355328) (ha : -9223372036854775808 ≤ a ∧ a ≤ 9223372036854775807) (hn : -9223372036854775808 ≤ s ∧ s ≤ 9223372036854775807) : ends_Get.f k l a s = some (getS l a s) := by
  obtain ⟨m, rfl⟩ : ∃ m, k = m + 6 := ⟨k - 6, by omega⟩
  unfold ends_Get.f getS
  have hm : ends_may.f s = some (okSize s) := by
    unfold ends_may.f okSize
    by_cases h1 : s = 1
    · simp [h1]
    · by_cases h2 : s = 2
      · simp [h2]
      · by_cases h4 : s = 4 <;> simp [h1, h2, h4]
  rw [hm]
  simp only [Option.bind_some]
  by_cases ho : okSize s = true
  · rw [if_pos ho, if_pos ho, ends_Part_eq _ (by omega) l a s hl ha hn]
    simp only [Option.bind_some]
    have hp := part_bytes hb a s
    rcases part_cases l a ho with h | ⟨rfl, x, h⟩ | ⟨rfl, x, y, h⟩ | ⟨rfl, x, y, z, u, h⟩
    · rw [h]; exact get_l0_0 _ _
    · rw [h] at hp ⊢; rw [val_one]; exact get_l0_1 _ _ _ (hp x (by simp))
    · rw [h] at hp ⊢; rw [val_two]; exact get_l0_2 _ _ _ _ (hp x (by simp)) (hp y (by simp))
    · rw [h] at hp ⊢; rw [val_four]; exact get_l0_4 _ _ _ _ _ _ (hp x (by simp)) (hp y (by simp)) (hp z (by simp)) (hp u (by simp))
  · rw [if_neg ho, if_neg ho]

theorem ends_PutRow_eq (k : Nat) (hk : 20 ≤ k) (l : List Int) (s : Int) (hl : l.length < 140737488355328) : ends_PutRow.f k l s = some (putRowS l s) := by
  obtain ⟨m, rfl⟩ : ∃ m, k = m + 1 := ⟨k - 1, by omega⟩
  unfold ends_PutRow.f putRowS
  have e1 : IntKind.u64.wrap (8 * IntKind.u64.wrap 1) = 8 := by decide
  have e2 : IntKind.u64.wrap (8 * IntKind.u64.wrap 2) = 16 := by decide
  have s1 : shl .i64 1 8 = 256 := by decide
  have s2 : shl .i64 1 16 = 65536 := by decide
  by_cases h1 : s = 1
  · subst h1
    rw [if_pos rfl, if_neg (by omega)]
    simp only [ends_PutRow.j0]
    rw [if_neg (by decide), e1, if_pos (by decide), s1]
    by_cases h : (l.length : Int) ≥ 256
    · rw [if_pos h, if_pos (by simp; omega)]
    · have hf : fits ((l.length : Int) % 4294967296) 1 = true := by simp [fits]; omega
      rw [if_neg h, if_neg (by omega), ends_Put_eq _ (by omega) _ _ (by omega) (by omega)]
      simp only [Option.bind_some, putS]
      rw [if_pos hf]
      simp only [be_length, if_true]
      rw [if_pos (by omega), show (l.length : Int) % 4294967296 = l.length from by omega]
  · rw [if_neg h1]
    by_cases h2 : s = 2
    · subst h2
      rw [if_neg (by omega)]
      simp only [ends_PutRow.j0]
      rw [if_neg (by decide), e2, if_pos (by decide), s2]
      by_cases h : (l.length : Int) ≥ 65536
      · rw [if_pos h, if_pos (by omega)]
      · have hf : fits ((l.length : Int) % 4294967296) 2 = true := by simp [fits]; omega
        rw [if_neg h, if_neg (by omega), ends_Put_eq _ (by omega) _ _ (by omega) (by omega)]
        simp only [Option.bind_some, putS]
        rw [if_pos hf]
        simp only [be_length]
        rw [if_pos (by simp; omega), show (l.length : Int) % 4294967296 = l.length from by omega]
    · rw [if_pos ⟨h1, h2⟩]
      simp [ends_PutRow.j0, h2]

theorem Spoil_eq (k : Nat) (l : List Int) (a : Int) : garderoberef00_Spoil.f k l a = some (l.map (fun x => (x + a) % 256)) := rfl

theorem Wide_eq (k : Nat) (l : List Int) (h : l.length ≤ 140737488355328) : garderoberef00_Wide.f k l = some l := by
  unfold garderoberef00_Wide.f
  rw [if_pos h]

theorem Left_eq (k : Nat) (l : List Int) (h : l.length ≤ 140737488355328) : garderoberef00_Left.f k l l = some true := by
  unfold garderoberef00_Left.f
  rw [if_pos ⟨rfl, h⟩]

theorem le_eq (b : Int) (h : 0 ≤ b ∧ b ≤ 255) : apdu_le.f b = some (leS b) := by
  unfold apdu_le.f leS
  split
  · rfl
  · rw [wrap_id (by omega) (by omega)]

theorem apdu_Read_eq (k : Nat) (hk : 5 ≤ k) (l : List Int) (hb : Bytes l) (hl : l.length < 140737488355328) : apdu_Read.f k l = some (readS l) := by
  obtain ⟨m, rfl⟩ : ∃ m, k = m + 3 := ⟨k - 3, by omega⟩
  match l, hl, hb with
  | [], _, _ => simp [apdu_Read.f, readS, noMsg]
  | [_], _, _ => simp [apdu_Read.f, readS, noMsg]
  | [_, _], _, _ => simp [apdu_Read.f, readS, noMsg]
  | [_, _, _], _, _ => simp [apdu_Read.f, readS, noMsg]
  | a :: b :: c :: d :: rest, hl, hb =>
    simp only [List.length_cons] at hl
    have hf : apdu_Read.f (m + 3) (a :: b :: c :: d :: rest) = (if (rest.length : Int) > 0 then apdu_Read.j0 (m + 3) rest (wrap64 (rd rest 0)) 0 a b c d 0 else apdu_Read.j0 (m + 3) rest 0 0 a b c d 0) := by
      unfold apdu_Read.f
      have hlen : ((a :: b :: c :: d :: rest).length : Int) = (rest.length : Int) + 4 := by simp only [List.length_cons]; omega
      rw [hlen, if_neg (by omega), if_pos (by omega), if_pos (by omega), if_pos (by omega), if_pos (by omega), if_pos (by omega)]
      simp only [List.drop_succ_cons, List.drop_zero]
      have r0 : rd (a :: b :: c :: d :: rest) 0 = a := rfl
      have r1 : rd (a :: b :: c :: d :: rest) 1 = b := rfl
      have r2 : rd (a :: b :: c :: d :: rest) 2 = c := rfl
      have r3 : rd (a :: b :: c :: d :: rest) 3 = d := rfl
      rw [r0, r1, r2, r3]
      split <;> (try (first | rw [if_pos (by omega)] | skip)) <;> rfl
    rw [hf]
    simp only [readS]
    match rest, hl, hb with
    | [], _, _ => simp [apdu_Read.j0, readR]
    | [x], _, hb =>
      have hx := hb x (by simp)
      have r0 : rd [x] 0 = x := rfl
      rw [if_pos (by simp), r0]
      simp only [apdu_Read.j0]
      rw [if_neg (by simp), if_pos (by simp), if_pos (by simp), r0, le_eq x hx]
      simp [readR]
    | n :: y :: tl, hl, hb =>
      have hn := hb n (by simp)
      have r0 : rd (n :: y :: tl) 0 = n := rfl
      simp only [List.length_cons] at hl
      have hlen : ((n :: y :: tl).length : Int) = (tl.length : Int) + 2 := by simp only [List.length_cons]; omega
      have hcut : ∀ q : Nat, ((n :: y :: tl).take (q + 1)).drop 1 = (y :: tl).take q := by intro q; simp
      rw [if_pos (by rw [hlen]; omega), r0, wrap_id (by omega) (by omega)]
      simp only [apdu_Read.j0]
      rw [if_neg (by rw [hlen]; omega), if_neg (by rw [hlen]; omega), wrap_id (n := n + 1) (by omega) (by omega)]
      simp only [readR]
      by_cases h0 : n > 0
      · rw [if_pos h0]
        by_cases h3 : ((y :: tl).length : Int) = n
        · have e : (((n :: y :: tl).length : Int) == n + 1) = true := by rw [beq_iff_eq, hlen]; simp only [List.length_cons] at h3; omega
          rw [e]
          simp only [apdu_Read.j1]
          have h3' := h3
          simp only [List.length_cons] at h3'
          have hq : (n + 1).toNat = n.toNat + 1 := by omega
          have ht : (y :: tl).take n.toNat = y :: tl := List.take_of_length_le (by simp only [List.length_cons]; omega)
          rw [if_pos (by simp), wrap_id (n := n + 1) (by omega) (by omega), if_pos (by omega), if_pos (by rw [hlen]; omega), hq, hcut, ht, if_pos (by simp only [List.length_nil, List.length_cons]; omega), if_pos ⟨h0, h3⟩]
          simp
        · have e : (((n :: y :: tl).length : Int) == n + 1) = false := by rw [beq_eq_false_iff_ne, hlen]; simp only [List.length_cons] at h3; omega
          rw [e, if_neg (fun h => h3 h.2)]
          simp only [apdu_Read.j1]
          rw [if_neg (by decide), if_pos h0, wrap_id (n := n + 2) (by omega) (by omega)]
          by_cases h4 : ((y :: tl).length : Int) = n + 1
          · have e : (((n :: y :: tl).length : Int) == n + 2) = true := by rw [beq_iff_eq, hlen]; simp only [List.length_cons] at h4; omega
            have h4' := h4
            simp only [List.length_cons] at h4'
            have hlt : n.toNat < (y :: tl).length := by simp only [List.length_cons]; omega
            have hr : rd (n :: y :: tl) (n + 1) = (y :: tl).getD n.toNat 0 := by
              unfold rd
              rw [show (n + 1).toNat = n.toNat + 1 from by omega]
              simp [List.getD_eq_getElem?_getD]
            have hz : 0 ≤ (y :: tl).getD n.toNat 0 ∧ (y :: tl).getD n.toNat 0 ≤ 255 := by
              rw [List.getD_eq_getElem?_getD, List.getElem?_eq_getElem hlt]
              apply hb
              have := List.getElem_mem hlt
              simp only [Option.getD_some, List.mem_cons] at this ⊢
              rcases this with h | h
              · exact .inr (.inr (.inr (.inr (.inr (.inl h)))))
              · exact .inr (.inr (.inr (.inr (.inr (.inr h)))))
            have hq : (n + 1).toNat = n.toNat + 1 := by omega
            rw [e]
            simp only [apdu_Read.j2]
            rw [if_pos (by simp), wrap_id (n := n + 1) (by omega) (by omega), if_pos (by omega), if_pos (by rw [hlen]; omega), hr, le_eq _ hz]
            simp only [Option.bind_some]
            rw [if_pos (by omega), if_pos (by rw [hlen]; omega), hq, hcut, if_pos (by simp only [List.length_nil, List.length_take, List.length_cons]; omega), if_pos ⟨h0, h4⟩]
            simp
          · have e : (((n :: y :: tl).length : Int) == n + 2) = false := by rw [beq_eq_false_iff_ne, hlen]; simp only [List.length_cons] at h4; omega
            rw [e, if_neg (fun h => h4 h.2)]
            simp [apdu_Read.j2, noMsg]
      · rw [if_neg h0, if_neg (fun h => h0 h.1), if_neg (fun h => h0 h.1)]
        simp only [apdu_Read.j1]
        rw [if_neg (by decide), if_neg h0]
        simp [apdu_Read.j2, noMsg]

theorem apdu_may_eq (k : Nat) (hk : 5 ≤ k) (c cla ins p1 p2 : Int) (data : List Int) (le : Int) : apdu_may.f k c cla ins p1 p2 data le = some (mayM c data le) := by
  obtain ⟨m, rfl⟩ : ∃ m, k = m + 2 := ⟨k - 2, by omega⟩
  have h1 : apdu_may.f (m + 2) c cla ins p1 p2 data le = apdu_may.j1 (m + 1) (decide (1 ≤ le ∧ le ≤ 256)) (decide (1 ≤ data.length ∧ data.length ≤ 255)) c cla ins p1 p2 data le := by
    unfold apdu_may.f
    have hle : (decide (1 ≤ le ∧ le ≤ 256)) = if le ≥ 1 then decide (le ≤ 256) else false := by
      by_cases h : le ≥ 1
      · rw [if_pos h, decide_eq_decide]; omega
      · rw [if_neg h, decide_eq_false_iff_not]; omega
    have hd : (decide (1 ≤ data.length ∧ data.length ≤ 255)) = if (data.length : Int) ≥ 1 then decide ((data.length : Int) ≤ 255) else false := by
      by_cases h : (data.length : Int) ≥ 1
      · rw [if_pos h, decide_eq_decide]; omega
      · rw [if_neg h, decide_eq_false_iff_not]; omega
    rw [hle, hd]
    split <;> (simp only [apdu_may.j0]; split <;> rfl)
  rw [h1]
  simp only [apdu_may.j1, mayM]
  have hz : (((data.length : Int) == 0) : Bool) = decide (data.length = 0) := by
    by_cases h : data.length = 0
    · simp [h]
    · rw [decide_eq_false h, beq_eq_false_iff_ne]; omega
  rw [hz]
  by_cases c1 : c = 1
  · rw [if_pos c1, if_pos c1]
    by_cases h : le = 0
    · rw [if_pos h]; congr 1; rw [decide_eq_decide]; exact ⟨fun x => ⟨h, x⟩, fun x => x.2⟩
    · rw [if_neg h]; congr 1; symm; rw [decide_eq_false_iff_not]; exact fun x => h x.1
  · rw [if_neg c1, if_neg c1]
    by_cases c2 : c = 2
    · rw [if_pos c2, if_pos c2]
      by_cases h : 1 ≤ le ∧ le ≤ 256
      · rw [if_pos (decide_eq_true h)]; congr 1; rw [decide_eq_decide]; exact ⟨fun x => ⟨h, x⟩, fun x => x.2⟩
      · rw [if_neg (by simpa using h)]; congr 1; symm; rw [decide_eq_false_iff_not]; exact fun x => h x.1
    · rw [if_neg c2, if_neg c2]
      by_cases c3 : c = 3
      · rw [if_pos c3, if_pos c3]
        by_cases h : le = 0
        · rw [if_pos h]; congr 1; rw [decide_eq_decide]; exact ⟨fun x => ⟨h, x⟩, fun x => x.2⟩
        · rw [if_neg h]; congr 1; symm; rw [decide_eq_false_iff_not]; exact fun x => h x.1
      · rw [if_neg c3, if_neg c3]
        by_cases c4 : c = 4
        · rw [if_pos c4, if_pos c4]
          by_cases h : 1 ≤ le ∧ le ≤ 256
          · rw [if_pos (decide_eq_true h)]; congr 1; rw [decide_eq_decide]; exact ⟨fun x => ⟨h, x⟩, fun x => x.2⟩
          · rw [if_neg (by simpa using h)]; congr 1; symm; rw [decide_eq_false_iff_not]; exact fun x => h x.1
        · rw [if_neg c4, if_neg c4]

theorem apdu_Put_eq (k : Nat) (hk : 40 ≤ k) (c cla ins p1 p2 : Int) (data : List Int) (le : Int) (hl : data.length < 140737488355328) : apdu_Put.f k c cla ins p1 p2 data le = some (putM c cla ins p1 p2 data le) := by
  unfold apdu_Put.f putM
  rw [apdu_may_eq k (by omega)]
  simp only [Option.bind_some]
  split
  · rename_i h
    have hm := mayM_len h
    unfold msgBytes
    by_cases h0 : data.length = 0
    · rw [if_neg (by omega), if_pos h0]
      by_cases h1 : le > 0
      · rw [if_pos h1, if_pos (by simp), if_pos h1]; simp
      · rw [if_neg h1, if_neg h1]; simp
    · have hrow : putRowS data 1 = ((data.length : Int) :: data, 0) := by
        unfold putRowS
        rw [if_neg (by omega), if_neg (by omega)]
        simp only [be, if_true, List.cons_append, List.nil_append]
        rw [show (data.length : Int) % 256 = data.length from by omega]
      rw [if_pos (by omega), if_neg h0, ends_PutRow_eq k (by omega) data 1 hl, hrow]
      simp only [Option.bind_some]
      rw [if_pos (by simp only [List.length_cons, List.length_nil]; omega)]
      by_cases h1 : le > 0
      · rw [if_pos h1, if_pos (by simp only [List.length_append, List.length_cons, List.length_nil]; omega), if_pos h1]
      · rw [if_neg h1, if_neg h1]; simp
  · rfl

theorem apdu_Answer_eq (k : Nat) (hk : 20 ≤ k) (data : List Int) (s : Int) (hs : 0 ≤ s ∧ s ≤ 65535) : apdu_Answer.f k data s = some (answerS data s) := by
  unfold apdu_Answer.f answerS
  by_cases h : (data.length : Int) > 256
  · rw [if_pos h, if_pos (by omega)]
  · have e : s % 4294967296 = s := by omega
    have hf : fits s 2 = true := by simp [fits]; omega
    rw [if_neg h, if_neg (by omega), e, ends_Put_eq k (by omega) s 2 (by omega) (by omega)]
    have hbe : be s 2 = [s / 256 % 256, s % 256] := by simp [be]
    simp only [Option.bind_some, putS, hf, if_true]
    rw [hbe, if_pos (by simp only [List.length_nil]; omega)]
    simp only [List.nil_append]
    rw [if_pos (by simp only [List.length_cons, List.length_nil]; omega)]

theorem apdu_Split_eq (k : Nat) (hk : 20 ≤ k) (b : List Int) (hb : Bytes b) (hl : b.length < 140737488355328) : apdu_Split.f k b = some (splitS b) := by
  unfold apdu_Split.f splitS
  rw [wrap_id (n := (b.length : Int) - 2) (by omega) (by omega)]
  by_cases h : (b.length : Int) - 2 < 0
  · rw [if_pos h, if_pos (by omega)]
  · rw [if_neg h]
    by_cases h2 : (b.length : Int) - 2 > 256
    · rw [if_pos h2, if_pos (by omega)]
    · rw [if_neg h2, if_neg (by omega), ends_Get_eq k (by omega) b hb _ 2 hl (by omega) (by omega)]
      simp only [Option.bind_some]
      have e0 : (b.length : Int) - 2 = ((b.length - 2 : Nat) : Int) := by omega
      have hp := part_cut (l := b) (a := b.length - 2) (n := 2) (by omega)
      have hg := get_range hb (((b.length - 2 : Nat) : Int)) 2
      have hget : (getS b ((b.length - 2 : Nat) : Int) 2).1 = val (b.drop (b.length - 2)) := by
        unfold getS
        rw [if_pos (by decide)]
        have e2 : ((2 : Nat) : Int) = 2 := rfl
        rw [e2] at hp
        rw [hp, List.take_of_length_le (by rw [List.length_drop]; omega)]
      have hw : IntKind.u16.wrap (getS b ((b.length - 2 : Nat) : Int) 2).1 = (getS b ((b.length - 2 : Nat) : Int) 2).1 := by
        have := hg.2.2.2 rfl
        simp only [IntKind.wrap, IntKind.bits, IntKind.signed]
        first | (simp; done) | (simp; omega)
      rw [e0, if_pos (by omega), if_pos (by omega), Int.toNat_natCast, if_pos (by simp only [List.length_nil, List.length_take]; omega), hw, hget]
      simp

end Go.Proofs.Ytfloeenjkjimmaa.EApduFresh
