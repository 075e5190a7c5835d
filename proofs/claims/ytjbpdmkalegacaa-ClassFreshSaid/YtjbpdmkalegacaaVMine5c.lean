/- Of ClassFresh's texts: what the law uses. -/
import Derived.Test.YtjbpdmkalegacaaVWWords
import Derived.Test.YtjbpdmkalegacaaVWLast
import Derived.Test.YtjbpdmkalegacaaVMiniW
import Derived.Maps.AppendAt
import Derived.Lib.SliceRun
import Derived.WalkSpells
namespace Go.Proofs.YtjbpdmkalegacaaW.PrintWords
open Go Go.RowKit
def Kept (w W : World) (S : Nat → Prop) : Prop := w.heap.size ≤ W.heap.size ∧ ∀ i, i < w.heap.size → ¬ S i → W.heap[i]? = w.heap[i]?
section
variable {w W W2 : World} {S S2 : Nat → Prop}
theorem Kept.refl (w : World) (S : Nat → Prop) : Kept w w S := ⟨Nat.le_refl _, fun _ _ _ => rfl⟩
theorem Kept.of_grown {row : Option Nat} (hg : W.grownBy W2 row) (h : Kept w W S) (hr : ∀ k, row = some k → S k ∨ w.heap.size ≤ k) : Kept w W2 S :=
  ⟨Nat.le_trans h.1 hg.size, fun i hi hn => (hg.block i (Nat.lt_of_lt_of_le hi h.1) (fun he => (hr i he.symm).elim hn (fun h3 => by omega))).trans (h.2 i hi hn)⟩
theorem Kept.drew (h : Kept w W S) : Kept w W.drew S := h
theorem Kept.drewN (h : Kept w W S) (m : Nat) : Kept w (W.drewN m) S := h
theorem Kept.alloc (h : Kept w W S) (o : Obj) : Kept w (W.alloc o) S := ⟨Nat.le_trans h.1 (below_alloc (Below.refl _ _) o : Below W.heap.size W (W.alloc o)).size, fun i hi hn => ((below_alloc (Below.refl _ _) o : Below W.heap.size W (W.alloc o)).block i (Nat.lt_of_lt_of_le hi h.1)).trans (h.2 i hi hn)⟩
end
end Go.Proofs.YtjbpdmkalegacaaW.PrintWords
namespace Go.Proofs.YtjbpdmkalegacaaW.Mine
open Go Go.RowKit Go.Proofs.YtjbpdmkalegacaaW.PrintWords Go.Proofs.YtjbpdmkalegacaaW.PrintLast Go.Proofs.YtjbpdmkalegacaaW.PrintMore
/-- a byte's cell -/
def isU8 : Value → Bool
  | .int .u8 _ => true
  | _ => false
theorem isU8_some {u : Value} (h : isU8 u = true) : ∃ n, u = .int .u8 n := by
  unfold isU8 at h
  split at h
  · exact ⟨_, rfl⟩
  · cases h
def Room (w : World) (v : Value) : Prop := ∀ k cur t fz, v.ownBlock = some k → w.heap[k]? = some (.cells cur t fz) → t = 5 → cur.toList.all isU8 = true
theorem Room.nil (w : World) (n c : Nat) : Room w (.slice none n c) := fun k cur t fz h => by simp [Value.ownBlock] at h
theorem Room.move {w w1 : World} {v : Value} (h : Room w v) (hm : ∀ k, v.ownBlock = some k → w1.heap[k]? = w.heap[k]?) : Room w1 v := fun k cur t fz hk hc ht => h k cur t fz hk ((hm k hk).symm.trans hc) ht
theorem Room.of {w : World} {g n c : Nat} {o : Nat} {cur : Array Value} {t : Nat} {fz : Nat × Nat} (hh : w.heap[g]? = some (.cells cur t fz)) (hc : t = 5 → cur.toList.all isU8 = true) : Room w (.slice (some ⟨g, o, none⟩) n c) := fun k cur' t' fz' hk hb ht => by
  have : g = k := by simpa [Value.ownBlock] using hk
  subst this
  rw [hh] at hb
  injection hb with hb
  injection hb with h1 h2 h3
  subst h1 h2
  exact hc ht
theorem zeroCells_all {z : Array Value} (hz : z.toList.all isU8 = true) (hs : 0 < z.size) (n : Nat) : (Builtin.zeroCells z n).toList.all isU8 = true := by
  rw [List.all_eq_true]
  intro u hu
  simp only [Builtin.zeroCells, Array.toList_map, List.mem_map] at hu
  obtain ⟨i, _, rfl⟩ := hu
  have hi : i % z.size < z.size := Nat.mod_lt _ hs
  rw [getElem!_pos z _ hi]
  rw [List.all_eq_true] at hz
  exact hz _ (by simp)
section
variable {P : Program} (w : World)
/-- what append leaves is bytes, if all that it takes is -/
theorem room_append (base : Nat) (t ty e : TypeId) (i : TypeInfo) (z : Value) (size bytes : Nat) (ht : P.underlying t = some (.slice e)) (hi : P.info? e = some i) (hz : i.zero = some z)
    (hsize : i.size = size) (hby : i.bytes = bytes) (hzs : z.cells.size = size) (hsz : 0 < size)
    (v : Value) (n : Nat) (xs : List Value) (hown : w.ownsRow base e size v n xs)
    (a : Addr) (m c : Nat) (news : List Value) (hl : news.length = m * size) (hnews : ∀ j u, news[j]? = some u → w.cell? (a.add j) = some u) (h1 : ∀ u ∈ news, u.oneCell' = true)
    (h63 : n + m ≤ maxLen) (hbytes : (n + m) * bytes ≤ 140737488355328)
    (hr : Room w v) (hzu : e = 5 → z.cells.toList.all isU8 = true) (hnu : e = 5 → news.all isU8 = true) (v' : Value) (w' : World)
    (hrun : (Builtin.append_ #[t, t] ty #[v, .slice (some a) m c]).run P w = .ok v' w') : Room w' v' := by
  subst hsize
  subst hby
  have hsmall : n + m ≤ 9223372036854775807 := by simp only [maxLen] at h63; omega
  rcases hown.2 with ⟨rfl, rfl⟩ | ⟨g, cap, cur, rfl, hbg, hg, hnc, hcm, hcs, htake⟩
  · by_cases hm : m = 0
    · subst hm
      have h2 : (Builtin.append_ #[t, t] ty #[.slice none 0 0, .slice (some a) 0 c]).run P w = .ok (.slice none 0 0) w := by
        simp [Builtin.append_, run_underlying ht, sizeOf, typeInfo, hi, Builtin.lenOf, Builtin.firstCells, loadCells, loadCellsFrom]
      rw [h2] at hrun
      cases hrun
      exact Room.nil _ _ _
    · have h2 := run_append_nil (P := P) w t ty e i z ht hi hz a m c news hl hnews (by omega) (by omega) (by have hb := hbytes; simp only [Nat.zero_add] at hb; omega)
      rw [h2] at hrun
      cases hrun
      refine Room.of (heap_alloc_new w.drew _) (fun he => ?_)
      rw [Array.toList_append, List.all_append, Bool.and_eq_true]
      exact ⟨hnu he, zeroCells_all (hzu he) (by omega) _⟩
  · have hcur : e = 5 → cur.toList.all isU8 = true := hr g cur e (0, 0) rfl hg
    by_cases hroom : n + m ≤ cap
    · have hfit : n * i.size + news.length ≤ cur.size := by rw [hl, hcs, ← Nat.add_mul]; exact Nat.mul_le_mul_right _ hroom
      have h2 := run_append_room (P := P) w t ty e i ht hi g n cap cur hg a m c news hl hnews h1 hroom hfit
      rw [h2] at hrun
      cases hrun
      refine Room.of (setRow_heap w g cur _ e _ hg) (fun he => ?_)
      have h3 := List.all_eq_true.1 (hcur he)
      simp only [List.all_append, Bool.and_eq_true, List.all_eq_true]
      exact ⟨⟨fun u hu => h3 u (List.mem_of_mem_take hu), List.all_eq_true.1 (hnu he)⟩, fun u hu => h3 u (List.mem_of_mem_drop hu)⟩
    · have holds : ∀ j u, xs[j]? = some u → w.cell? ((⟨g, 0, none⟩ : Addr).add j) = some u := hown.cells (g := g) rfl
      have h2 := run_append_grow (P := P) w t ty e i z ht hi hz ⟨g, 0, none⟩ n cap xs hown.1 holds a m c news hl hnews (by omega) (by omega) (growslice_fits (by omega) hbytes)
      rw [h2] at hrun
      cases hrun
      refine Room.of (heap_alloc_new w.drew _) (fun he => ?_)
      have h3 := List.all_eq_true.1 (hcur he)
      simp only [Array.toList_append, List.all_append, Bool.and_eq_true, List.all_eq_true]
      exact ⟨⟨fun u hu => h3 u (List.mem_of_mem_take (htake ▸ hu)), List.all_eq_true.1 (hnu he)⟩, List.all_eq_true.1 (zeroCells_all (hzu he) (by omega) _)⟩
end
namespace Kr
def R {α : Type} (d : Kd α) (e : Nat) (w : World) (base : Nat) (ok : Nat → Prop) (v : Value) (xs : List α) : Prop := Kd.R d e w base ok v xs ∧ Room w v
section
variable {α : Type} {d : Kd α} {e : Nat} {w w1 W : World} {base base' : Nat} {ok ok' : Nat → Prop} {v u : Value} {xs : List α}
theorem R_go {ys : List α} {d : Kd α} (h : R d e w base ok v xs) (h1 : Kd.R d e w1 base' ok' v ys) (hm : ∀ k, ok k → v.ownBlock = some k → k < w.heap.size → w1.heap[k]? = w.heap[k]?) : R d e w1 base' ok' v ys :=
  ⟨h1, h.2.move (fun k hk => hm k (h.1.1 k hk) hk (Kd.R_lt h.1 k hk))⟩
theorem R_nil (d : Kd α) (e : Nat) (w : World) (base : Nat) (ok : Nat → Prop) : R d e w base ok (.slice none 0 0) [] := ⟨Kd.R_nil d e w base ok, Room.nil _ _ _⟩
theorem R_lt (h : R d e w base ok v xs) : ∀ k, v.ownBlock = some k → k < w.heap.size := Kd.R_lt h.1
theorem R_base (h : R d e w base ok v xs) : ∀ k, v.ownBlock = some k → base ≤ k := Kd.R_base h.1
theorem R_slice (h : R d e w base ok v xs) : ∃ A c, v = .slice A xs.length c := Kd.R_slice h.1
theorem R_reads' {A : Option Addr} {n c : Nat} (h : R d e w base ok (.slice A n c) xs) : n = xs.length ∧ n ≤ c ∧ d.C w A xs.length xs := Kd.R_reads' h.1
theorem R_form (h : R d e w base ok v xs) (hp : 0 < xs.length) : ∃ g cap, v = .slice (some ⟨g, 0, none⟩) xs.length cap ∧ base ≤ g ∧ g < w.heap.size ∧ ∃ cells, w.heap[g]? = some (.cells cells e (0, 0)) := by
  have := Kd.R_form h.1 hp
  exact this
theorem R_mono (h : R d e w base ok v xs) (hok : ∀ k, ok k → ok' k) : R d e w base ok' v xs := ⟨Kd.R_mono h.1 hok, h.2⟩
theorem R_lower (h : R d e w base ok v xs) (hb : base' ≤ base) : R d e w base' ok v xs := ⟨Kd.R_lower h.1 hb, h.2⟩
theorem R_below (h : R d e w base ok v xs) (hb : Below w.heap.size w w1) : R d e w1 base ok v xs := R_go h (Kd.R_below h.1 hb) (fun k _ _ hl => hb.block k hl)
theorem R_alloc (h : R d e w base ok v xs) (o : Obj) : R d e (w.alloc o) base ok v xs := R_below h (below_alloc (Below.refl _ _) o)
theorem R_drew (h : R d e w base ok v xs) : R d e w.drew base ok v xs := R_below h (below_drew (Below.refl _ _))
theorem R_drewN (h : R d e w base ok v xs) (m : Nat) : R d e (w.drewN m) base ok v xs := R_below h (pw_below_drewN (Below.refl _ _) m)
theorem R_far (h : R d e w base ok v xs) {p : Addr} (hok : ∀ k, ok k → k ≠ p.block) (u : Value) : R d e (w.setCell p u) base ok v xs := R_go h (Kd.R_far h.1 hok u) (fun k ho _ _ => Below.heap_setCell w p u k (hok k ho))
theorem R_take {A : Option Addr} {m n c : Nat} (h : R d e w base ok (.slice A n c) xs) (hm : m ≤ xs.length) : R d e w base ok (.slice A m c) (xs.take m) := ⟨Kd.R_take h.1 hm, fun k cur t fz hk => h.2 k cur t fz (by cases A <;> exact hk)⟩
end
section
variable {α : Type} {enc : α → Value} {h1 : ∀ x, (enc x).oneCell' = true} {e : Nat} {W : World} {base g n cap : Nat} {ok : Nat → Prop} {xs : List α}
theorem R_celln (d : α) (h : R (Kd.scalar enc h1) e W base ok (.slice (some ⟨g, 0, none⟩) n cap) xs) (i : Int) (h0 : 0 ≤ i) (hi : i < n) : W.cell? ⟨g, i.toNat, none⟩ = some (enc (rdOf d xs i)) ∧ W.frozen? ⟨g, i.toNat, none⟩ = false := Kd.R_celln d h.1 i h0 hi
theorem R_putg {e : Nat} {W : World} {base g n cap : Nat} {ok : Nat → Prop} {xs : List Int} (h : R (Kd.int .u8) e W base ok (.slice (some ⟨g, 0, none⟩) n cap) xs) (i : Int) (x : Int) : R (Kd.int .u8) e (W.setCell ⟨g, i.toNat, none⟩ (.int .u8 x)) base ok (.slice (some ⟨g, 0, none⟩) n cap) (xs.set i.toNat x) ∧ W.grownBy (W.setCell ⟨g, i.toNat, none⟩ (.int .u8 x)) (some g) := by
  have h2 := Kd.R_putg (enc := Value.int .u8) (h1 := fun _ => rfl) h.1 i x
  refine ⟨⟨h2.1, fun k cur t fz hk hb ht => ?_⟩, h2.2⟩
  have : g = k := by simpa [Value.ownBlock] using hk
  subst this
  simp only [World.setCell, Array.getElem?_modify, if_true] at hb
  cases hh : W.heap[g]? with
  | none => rw [hh] at hb; simp at hb
  | some o =>
    rw [hh] at hb
    cases o with
    | cells c t' fz' =>
      simp only [Option.map_some, Option.some.injEq, Obj.cells.injEq] at hb
      obtain ⟨rfl, rfl, rfl⟩ := hb
      have h3 := List.all_eq_true.1 (h.2 g c t' fz' rfl hh ht)
      simp only [Option.isSome_none, Bool.false_eq_true, if_false, Array.toList_setIfInBounds, List.all_eq_true]
      intro u hu
      rcases List.mem_or_eq_of_mem_set hu with hu | rfl
      · exact h3 u hu
      · rfl
    | _ => simp at hb
end
section
variable {P : Program} {ops : Array Oper} {rest : List Oper} {o : Oper} {a : Act} {Q : Exit → Act → World → Prop} {α : Type}
theorem R_lit (d : Kd α) {w0 W : World} (base e : Nat) (hgd : o.guard = none) {N : Tmp} (_hd : o.dst = some N) {xs : List α} {inner : List Value} {ok okp : Nat → Prop}
    (hrun : (execOp a.eval o).run P W = .ok (.value (.slice (some ⟨W.heap.size, 0, none⟩) xs.length xs.length)) (W.alloc (.cells inner.toArray e)))
    (hrep : Reps (d.M W base okp) d.sz xs inner) (hok : ∀ k, okp k → ok k) (hfresh : ok W.heap.size) (HB : Below base w0 W) (hbase : base ≤ W.heap.size) (hm : xs.length ≤ 9223372036854775807)
    (h : ∀ v1 w1, R d e w1 base ok v1 xs → Below base w0 w1 → W.grownBy w1 none → (∃ b, v1.ownBlock = some b ∧ W.heap.size ≤ b) → wpList P ops Q rest (a.put o.dst v1) w1)
    (hz : (e != 5 || inner.all isU8) = true := by rfl) : wpList P ops Q (o :: rest) a W := by
  refine Kd.event_run hgd hrun (h _ _ ⟨⟨fun k hk => ?_, inner, ?_, ?_⟩, ?_⟩ (HB.alloc hbase _) (World.grownBy_alloc W _ none) ⟨W.heap.size, by simp [Value.ownBlock], Nat.le_refl _⟩)
  · have : W.heap.size = k := by simpa [Value.ownBlock] using hk
    subst this
    exact hfresh
  · have h2 := World.ownsRow_lit (base := base) (e := e) (size := d.sz) W inner.toArray xs.length hbase (by simpa [maxLen] using hm) (by simpa using hrep.1)
    simpa using h2
  · refine hrep.imp_ (fun p c hp => d.M_mono (fun k hk => ⟨hok k hk.1, fun he => ?_⟩) (Kd.M_below (d.M_bound hp) (below_alloc (Below.refl _ _) _)))
    have h3 : k = W.heap.size := by simpa [Value.ownBlock] using he
    have := hk.2.2.1
    omega
  · refine Room.of (heap_alloc_new W _) (fun he => ?_)
    subst he
    simpa using hz
theorem R_make (d : Kd α) {w0 W : World} (base e : Nat) (hgd : o.guard = none) {N : Tmp} (hd : o.dst = some N) (t : TypeId) (x y : Operand) (ho : o.op = .makeSlice t x y) (n : Int) (hx : a.eval x = .int .i64 n) (hy : a.eval y = .int .i64 n)
    (ht : P.underlying t = some (.slice e)) (z : Value) (bytes : Nat) (hinfo : (P.info? e).map (fun i => (i.zero, i.size, i.bytes)) = some (some z, d.sz, bytes)) (hz : z.cells.size = d.sz) (hs0 : 0 < d.sz) (hb0 : 0 < bytes)
    (z0 : α) {ok okp : Nat → Prop} (hzero : d.M W base okp z0 z.cells.toList) (hok : ∀ k, okp k → ok k) (hfresh : ok W.heap.size) (h0 : 0 ≤ n) (hl : n.toNat * bytes ≤ 281474976710656) (HB : Below base w0 W) (hbase : base ≤ W.heap.size)
    (h : ∀ v1 w1, R d e w1 base ok v1 (List.replicate n.toNat z0) → Below base w0 w1 → W.grownBy w1 none → (∃ b, v1.ownBlock = some b ∧ W.heap.size ≤ b) → wpList P ops Q rest (a.put o.dst v1) w1)
    (hz8 : (e != 5 || z.cells.toList.all isU8) = true := by rfl) : wpList P ops Q (o :: rest) a W := by
  obtain ⟨m, rfl⟩ := Int.eq_ofNat_of_zero_le h0
  simp only [Int.toNat_natCast] at hl h
  obtain ⟨i0, hi, hzz⟩ := Option.map_eq_some_iff.1 hinfo
  simp only [Prod.mk.injEq] at hzz
  obtain ⟨hz0, hz1, hz2⟩ := hzz
  have hm : m ≤ 281474976710656 := Nat.le_trans (Nat.le_mul_of_pos_right _ hb0) hl
  have hr := run_make (P := P) W t e i0 z ht hi hz0 .i64 .i64 (m : Int) (m : Int) (by omega) (by omega)
    (by
      have h3 : ((i0.bytes * m : Nat) : Int) ≤ 281474976710656 := by rw [hz2, Nat.mul_comm]; omega
      rwa [Int.natCast_mul] at h3) (by omega)
  simp only [Int.toNat_natCast] at hr
  rw [hz1] at hr
  refine R_lit d base e hgd hd (xs := List.replicate m z0) (inner := (madeCells z.cells (m * d.sz)).toList) (okp := okp) (ok := ok) ?_ (Kd.reps_made hz hs0 hzero m) hok hfresh HB hbase (by simp; omega) h ?_
  · simp [execOp, ho, hx, hy, hr]
  · by_cases he : e = 5
    · subst he
      have hz9 := List.all_eq_true.1 (show z.cells.toList.all isU8 = true by simpa using hz8)
      have : (madeCells z.cells (m * d.sz)).toList.all isU8 = true := by
        rw [List.all_eq_true]
        intro u hu
        simp only [madeCells, Array.toList_map, List.mem_map] at hu
        obtain ⟨i, _, rfl⟩ := hu
        have hi : i % z.cells.size < z.cells.size := Nat.mod_lt _ (by omega)
        rw [getElem!_pos z.cells _ hi]
        exact hz9 _ (by simp)
      rw [this]; simp
    · simp [he]
/-- the run that the kit's word tells of, told outright -/
theorem append_run (d : Kd α) {Rr : α → List Value → Prop} {w0 W : World} (base : Nat) (t e ty : TypeId) (z : Value) (bytes : Nat)
    (ht : P.underlying t = some (.slice e)) (hinfo : (P.info? e).map (fun i => (i.zero, i.size, i.bytes)) = some (some z, d.sz, bytes)) (hz : z.cells.size = d.sz) (hs0 : 0 < d.sz) (hb0 : 0 < bytes)
    (v : Value) (xs ys : List α) (A : Option Addr) (m c : Nat) (ok okp : Nat → Prop)
    (HO : Kd.R d e W base ok v xs) (HR : ReadsRow Rr d.sz W A m ys) (hKM : ∀ x cs, Rr x cs → d.M W base okp x cs) (hokp : ∀ k, okp k → ok k ∧ some k ≠ v.ownBlock) (hfresh : ∀ k, W.heap.size ≤ k → ok k)
    (HB : Below base w0 W) (hbase : base ≤ W.heap.size) (hl : (xs.length + m) * bytes ≤ 140737488355328) :
    ∃ v1 w1, (Builtin.append_ #[t, t] ty #[v, .slice A m c]).run P W = .ok v1 w1 ∧ Kd.R d e w1 base ok v1 (xs ++ ys) ∧ Below base w0 w1 ∧ W.grownBy w1 v.ownBlock ∧ (v1.ownBlock = v.ownBlock ∨ ∃ b, v1.ownBlock = some b ∧ W.heap.size ≤ b) := by
  have key := Kd.R_append_rows (P := P) (ops := #[]) (rest := []) (o := { (default : Oper) with op := .call { callee := .builtin .append, args := #[.const v, .const (.slice A m c)], argTypes := #[t, t] }, dst := some 0, guard := none, type := ty }) (a := ⟨#[undef], []⟩)
    (Q := fun ex a' w1 => ex = .normal ∧ ∃ v1, a'.tmps = #[v1] ∧ Kd.R d e w1 base ok v1 (xs ++ ys) ∧ Below base w0 w1 ∧ W.grownBy w1 v.ownBlock ∧ (v1.ownBlock = v.ownBlock ∨ ∃ b, v1.ownBlock = some b ∧ W.heap.size ≤ b))
    d base rfl (.const v) (.const (.slice A m c)) t e z bytes rfl ht hinfo hz hs0 hb0 v xs ys A m c ok okp rfl rfl HO HR hKM hokp hfresh HB hbase hl
    (fun v1 w1 h1 h2 h3 h4 => ⟨rfl, v1, rfl, h1, h2, h3, h4⟩)
  have hout : ¬ LetsOut (fun ex a' w1 => ex = Exit.normal ∧ ∃ v1, (a' : Act).tmps = #[v1] ∧ Kd.R d e w1 base ok v1 (xs ++ ys) ∧ Below base w0 w1 ∧ W.grownBy w1 v.ownBlock ∧ (v1.ownBlock = v.ownBlock ∨ ∃ b, v1.ownBlock = some b ∧ W.heap.size ≤ b)) := by
    rintro ⟨a', w', h, _⟩
    cases h
  simp only [wpList, Region.wanted, if_true] at key
  rcases key with key | ⟨_, h⟩
  · unfold Oper.wp execOp at key
    simp only [resolve, invoke, builtin, Sem.run_bind, Sem.run_pure, Result.andThen_ok, List.map_toArray, List.map_cons, List.map_nil, Act.eval] at key
    cases hr : (Builtin.append_ #[t, t] ty #[v, .slice A m c]).run P W with
    | ok v1 w1 =>
      rw [hr] at key
      simp only [Result.andThen_ok, Oper.upon_value, Act.put] at key
      obtain ⟨_, v2, h2, h3⟩ := key
      have : v1 = v2 := by simpa using h2
      subst this
      exact ⟨v1, w1, rfl, h3⟩
    | halt h w1 =>
      rw [hr] at key
      cases h <;> simp [Result.andThen, Oper.upon] at key
  · exact absurd h hout
theorem append_room (d : Kd α) {Rr : α → List Value → Prop} {w0 W : World} (base : Nat) (t e ty : TypeId) (z : Value) (bytes : Nat)
    (ht : P.underlying t = some (.slice e)) (hinfo : (P.info? e).map (fun i => (i.zero, i.size, i.bytes)) = some (some z, d.sz, bytes)) (hz : z.cells.size = d.sz) (hs0 : 0 < d.sz) (hb0 : 0 < bytes)
    (v : Value) (xs ys : List α) (A : Option Addr) (m c : Nat) (ok okp : Nat → Prop)
    (HO : R d e W base ok v xs) (HR : ReadsRow Rr d.sz W A m ys) (hKM : ∀ x cs, Rr x cs → d.M W base okp x cs) (hokp : ∀ k, okp k → ok k ∧ some k ≠ v.ownBlock) (hfresh : ∀ k, W.heap.size ≤ k → ok k)
    (HB : Below base w0 W) (hbase : base ≤ W.heap.size) (hl : (xs.length + m) * bytes ≤ 140737488355328) (hz8 : e = 5 → z.cells.toList.all isU8 = true) (hr8 : e = 5 → ∀ x cs, Rr x cs → cs.all isU8 = true) :
    ∃ v1 w1, (Builtin.append_ #[t, t] ty #[v, .slice A m c]).run P W = .ok v1 w1 ∧ R d e w1 base ok v1 (xs ++ ys) ∧ Below base w0 w1 ∧ W.grownBy w1 v.ownBlock ∧ (v1.ownBlock = v.ownBlock ∨ ∃ b, v1.ownBlock = some b ∧ W.heap.size ≤ b) := by
  obtain ⟨v1, w1, hrun, h1, h2, h3, h4⟩ := append_run (P := P) d base t e ty z bytes ht hinfo hz hs0 hb0 v xs ys A m c ok okp HO.1 HR hKM hokp hfresh HB hbase hl
  refine ⟨v1, w1, hrun, ⟨h1, ?_⟩, h2, h3, h4⟩
  obtain ⟨i0, hi, hzz⟩ := Option.map_eq_some_iff.1 hinfo
  simp only [Prod.mk.injEq] at hzz
  obtain ⟨hz0, hz1, hz2⟩ := hzz
  have hm : ys.length = m := HR.1
  have hlen : xs.length + m ≤ 140737488355328 := Nat.le_trans (Nat.le_mul_of_pos_right _ hb0) hl
  obtain ⟨⟨hok, inner, hown, hr⟩, hroom⟩ := HO
  rcases A with _ | ad
  · have h0 : m = 0 := by
      rcases Nat.eq_zero_or_pos m with h0 | h0
      · exact h0
      · obtain ⟨ad, h, _⟩ := HR.2.2 h0
        cases h
    subst h0
    have h5 : (Builtin.append_ #[t, t] ty #[v, .slice none 0 c]).run P W = .ok v W := by
      rcases hown.2 with ⟨rfl, hn⟩ | ⟨g, cap, cur, rfl, _, _, hnc, _⟩
      · simp [Builtin.append_, run_underlying ht, sizeOf, typeInfo, hi, Builtin.lenOf, Builtin.firstCells]
      · simp [Builtin.append_, run_underlying ht, sizeOf, typeInfo, hi, Builtin.lenOf, Builtin.firstCells, hnc, storeCells]
    rw [h5] at hrun
    cases hrun
    exact hroom
  · obtain ⟨news, hnr, hnc⟩ := ReadsRow.inner_ HR
    have hpart : ∀ q (hq : q < news.length), ∃ p cs, Rr p cs ∧ news[q] ∈ cs := by
      intro q hq
      have hql : q / d.sz < ys.length := by
        rw [Nat.div_lt_iff_lt_mul hs0]
        rw [← hnr.1]
        exact hq
      refine ⟨_, _, hnr.2 (q / d.sz) _ (List.getElem?_eq_getElem hql), ?_⟩
      rw [List.mem_iff_getElem?]
      refine ⟨q % d.sz, ?_⟩
      rw [List.getElem?_take, if_pos (Nat.mod_lt _ hs0), List.getElem?_drop, Nat.mul_comm, Nat.div_add_mod, List.getElem?_eq_getElem hq]
    refine room_append (P := P) W base t ty e i0 z d.sz bytes ht hi hz0 hz1 hz2 hz hs0 v xs.length inner hown ad m c news (by rw [hnr.1, hm]) hnc ?_ (by simp only [maxLen]; omega) hl hroom hz8 ?_ v1 w1 hrun
    · intro u hu
      obtain ⟨q, hq, rfl⟩ := List.mem_iff_getElem.1 hu
      obtain ⟨p, cs, h5, h6⟩ := hpart q hq
      exact d.K_one (d.K_of_M (hKM _ _ h5)) _ h6
    · intro he
      rw [List.all_eq_true]
      intro u hu
      obtain ⟨q, hq, rfl⟩ := List.mem_iff_getElem.1 hu
      obtain ⟨p, cs, h5, h6⟩ := hpart q hq
      exact List.all_eq_true.1 (hr8 he p cs h5) _ h6
theorem R_append_rows (d : Kd α) {Rr : α → List Value → Prop} {w0 W : World} (base : Nat) (hgd : o.guard = none) (s x : Operand) (t e : TypeId) (z : Value) (bytes : Nat)
    (ho : o.op = .call { callee := .builtin .append, args := #[s, x], argTypes := #[t, t] })
    (ht : P.underlying t = some (.slice e)) (hinfo : (P.info? e).map (fun i => (i.zero, i.size, i.bytes)) = some (some z, d.sz, bytes)) (hz : z.cells.size = d.sz) (hs0 : 0 < d.sz) (hb0 : 0 < bytes)
    (v : Value) (xs ys : List α) (A : Option Addr) (m c : Nat) (ok okp : Nat → Prop) (hs : a.eval s = v) (hx : a.eval x = .slice A m c)
    (HO : R d e W base ok v xs) (HR : ReadsRow Rr d.sz W A m ys) (hKM : ∀ x cs, Rr x cs → d.M W base okp x cs) (hokp : ∀ k, okp k → ok k ∧ some k ≠ v.ownBlock) (hfresh : ∀ k, W.heap.size ≤ k → ok k)
    (HB : Below base w0 W) (hbase : base ≤ W.heap.size) (hl : (xs.length + m) * bytes ≤ 140737488355328)
    (h : ∀ v1 w1, R d e w1 base ok v1 (xs ++ ys) → Below base w0 w1 → W.grownBy w1 v.ownBlock → (v1.ownBlock = v.ownBlock ∨ ∃ b, v1.ownBlock = some b ∧ W.heap.size ≤ b) → wpList P ops Q rest (a.put o.dst v1) w1)
    (hz8 : (e != 5 || z.cells.toList.all isU8) = true := by rfl) (hr8 : e = 5 → ∀ x cs, Rr x cs → cs.all isU8 = true := by first | (intro h_; exact absurd h_ (by decide)) | (intro _ x_ cs_ h_; have h2_ : cs_ = [.int .u8 x_] := h_; rw [h2_]; rfl)) :
    wpList P ops Q (o :: rest) a W := by
  obtain ⟨v1, w1, hr1, h1, h2, hg, hat⟩ := append_room (P := P) d base t e o.type z bytes ht hinfo hz hs0 hb0 v xs ys A m c ok okp HO HR hKM hokp hfresh HB hbase hl (fun he => by subst he; simpa using hz8) hr8
  refine wpList_plain hgd fun K hK => ?_
  unfold Oper.wp execOp
  simp only [ho, resolve, invoke, builtin, Sem.run_bind, Sem.run_pure, Result.andThen_ok, List.map_toArray, List.map_cons, List.map_nil, hs, hx, hr1]
  exact hK _ _ (h v1 w1 h1 h2 hg hat)
end
end Kr
theorem Room.set {w : World} {v : Value} (h : Room w v) (p : Addr) {u : Value} (hu : isU8 u = true) : Room (w.setCell p u) v := by
  intro k cur t fz hk hb ht
  simp only [World.setCell, Array.getElem?_modify] at hb
  by_cases hp : p.block = k
  · rw [if_pos hp] at hb
    cases hh : w.heap[k]? with
    | none => rw [hh] at hb; simp at hb
    | some o =>
      rw [hh] at hb
      cases o with
      | cells c t' fz' =>
        simp only [Option.map_some, Option.some.injEq, Obj.cells.injEq] at hb
        obtain ⟨rfl, rfl, rfl⟩ := hb
        have h3 := List.all_eq_true.1 (h k c t' fz' hk hh ht)
        rw [List.all_eq_true]
        intro x hx
        split at hx
        · exact h3 x hx
        · rw [Array.toList_setIfInBounds] at hx
          rcases List.mem_or_eq_of_mem_set hx with hx | rfl
          · exact h3 x hx
          · exact hu
      | _ => simp at hb
  · rw [if_neg hp] at hb
    exact h k cur t fz hk hb ht
def numU8 : Value → Int
  | .int _ n => n
  | _ => 0
theorem nums_of_u8 : ∀ (l : List Value), l.all isU8 = true → encs (Value.int .u8) (l.map numU8) = l
  | [], _ => rfl
  | u :: l, h => by
    simp only [List.all_cons, Bool.and_eq_true] at h
    obtain ⟨n, rfl⟩ := isU8_some h.1
    have := nums_of_u8 l h.2
    simp only [encs, List.map_cons] at this ⊢
    rw [this]
    rfl
namespace Kr
theorem R_whole {w : World} {base : Nat} {ok : Nat → Prop} {A : Option Addr} {n c : Nat} {xs : List Int} (h : R (Kd.int .u8) 5 w base ok (.slice A n c) xs) : ∃ L : List Int, L.length = c ∧ L.take n = xs ∧ R (Kd.int .u8) 5 w base ok (.slice A c c) L := by
  have hn := (R_reads' h).1
  have ho := Kd.own_of_R (h1 := fun _ => rfl) h.1
  rcases ho.2 with ⟨hv, h0⟩ | ⟨g, cap, cur, hv, hb, hh, hnc, hcm, hcs, htake⟩
  · injection hv with h1 h2 h3
    subst h1 h2 h3
    have hx : xs = [] := List.eq_nil_of_length_eq_zero h0
    subst hx
    exact ⟨[], rfl, rfl, h⟩
  · injection hv with h1 h2 h3
    subst h1 h3
    have hu := h.2 g cur 5 (0, 0) rfl hh rfl
    have he := nums_of_u8 _ hu
    have hl : (cur.toList.map numU8).length = c := by simp; omega
    refine ⟨cur.toList.map numU8, hl, ?_, Kd.R_of_own (enc := Value.int .u8) (h1 := fun _ => rfl) ?_ (fun k hk => h.1.1 k hk), fun k cur' t fz hk => h.2 k cur' t fz hk⟩
    · have h5 : encs (Value.int .u8) ((cur.toList.map numU8).take n) = encs (Value.int .u8) xs := by
        rw [show encs (Value.int .u8) ((cur.toList.map numU8).take n) = (encs (Value.int .u8) (cur.toList.map numU8)).take n from by simp [encs, List.map_take], he, hn, ← htake, Nat.mul_one]
      have h6 : ∀ (a b : List Int), encs (Value.int .u8) a = encs (Value.int .u8) b → a = b := by
        intro a b hab
        have := congrArg (List.map numU8) hab
        simp only [encs, List.map_map] at this
        have hid : (numU8 ∘ Value.int IntKind.u8) = id := rfl
        rw [hid] at this
        simpa using this
      exact h6 _ _ h5
    · rw [hl]
      refine ⟨by rw [encs_length, hl, Nat.mul_one], .inr ⟨g, c, cur, rfl, hb, hh, Nat.le_refl _, hcm, hcs, ?_⟩⟩
      rw [he, List.take_of_length_le (by simp; omega)]
theorem R_short {w : World} {base : Nat} {ok : Nat → Prop} {A : Option Addr} {n c : Nat} {L : List Int} (h : R (Kd.int .u8) 5 w base ok (.slice A c c) L) (hn : n ≤ c) : R (Kd.int .u8) 5 w base ok (.slice A n c) (L.take n) := by
  have hc := (R_reads' h).1
  have ho := Kd.own_of_R (h1 := fun _ => rfl) h.1
  have hl : (L.take n).length = n := by rw [List.length_take]; omega
  rcases ho.2 with ⟨hv, h0⟩ | ⟨g, cap, cur, hv, hb, hh, hnc, hcm, hcs, htake⟩
  · injection hv with h1 h2 h3
    subst h1 h2
    have : n = 0 := by omega
    subst this
    rw [List.take_zero]
    exact R_nil _ _ _ _ _
  · injection hv with h1 h2 h3
    subst h1 h3
    refine ⟨Kd.R_of_own (enc := Value.int .u8) (h1 := fun _ => rfl) ?_ (fun k hk => h.1.1 k hk), fun k cur' t fz hk => h.2 k cur' t fz hk⟩
    rw [hl]
    refine ⟨by rw [encs_length, hl, Nat.mul_one], .inr ⟨g, c, cur, rfl, hb, hh, hn, hcm, hcs, ?_⟩⟩
    rw [show encs (Value.int .u8) (L.take n) = (encs (Value.int .u8) L).take n from by simp [encs, List.map_take], ← htake, List.take_take, Nat.mul_one, Nat.mul_one]
    congr 1
    omega
end Kr
/-- 'xs[:c:c]', c the capacity. -/
theorem whole3_of {P : Program} (t e : TypeId) (kl km : IntKind) {i : TypeInfo} (ht : P.underlying t = some (.slice e)) (hi : P.info? e = some i) (hsz : i.size = 1) (A : Option Addr) (n c : Nat) (W : World) :
    (Instr.slice t (.slice A n c) none (some (.int kl c)) (some (.int km c))).run P W = .ok (.slice A c c) W := by
  have hel : P.elem t = e := by simp [Program.elem, ht]
  have hu : P.underlying t = some (.slice (P.elem t)) := by rw [hel]; exact ht
  have ha : (A.map fun x => x.add 0) = A := by cases A <;> simp [Addr.add]
  rw [run_slice_hm W t A n c hu kl km c c (by omega) (by omega) (by omega), hel]
  simp [sizeOf, typeInfo, hi, hsz, sliced, Result.andThen, ha]
/-- the long row behind i rounds of Spoil -/
def spoilt (a : Int) (L : List Int) (i : Nat) : List Int := (L.take i).map (fun x => (x + a) % 256) ++ L.drop i
theorem spoilt_zero (a : Int) (L : List Int) : spoilt a L 0 = L := by simp [spoilt]
theorem spoilt_all (a : Int) (L : List Int) (i : Nat) (h : L.length ≤ i) : spoilt a L i = L.map (fun x => (x + a) % 256) := by simp [spoilt, List.take_of_length_le h, List.drop_eq_nil_of_le h]
theorem spoilt_length (a : Int) (L : List Int) (i : Nat) : (spoilt a L i).length = L.length := by simp [spoilt]; omega
theorem spoilt_succ (a : Int) (L : List Int) (i : Nat) (h : i < L.length) : (spoilt a L i).set i ((rd (spoilt a L i) i + a) % 256) = spoilt a L (i + 1) := by
  have hr : rd (spoilt a L i) (i : Int) = L[i] := by
    simp only [rd, spoilt, Int.toNat_natCast]
    rw [List.getD_eq_getElem?_getD, List.getElem?_append_right (by simp; omega)]
    simp [Nat.min_eq_left (Nat.le_of_lt h), h]
  rw [hr]
  unfold spoilt
  have hl : ((L.take i).map (fun x => (x + a) % 256)).length = i := by simp; omega
  rw [List.set_append_right _ _ (by omega), hl, Nat.sub_self, List.take_succ_eq_append_getElem h, List.map_append, List.append_assoc]
  congr 1
  conv => lhs; rw [List.drop_eq_getElem_cons h]
  rfl
/-- 'xs[:j:j]', j at most the capacity. -/
theorem upto3_of {P : Program} (t e : TypeId) (kl km : IntKind) {i : TypeInfo} (ht : P.underlying t = some (.slice e)) (hi : P.info? e = some i) (hsz : i.size = 1) (A : Option Addr) (n c : Nat) (j : Int) (h0 : 0 ≤ j) (hj : j ≤ c) (W : World) :
    (Instr.slice t (.slice A n c) none (some (.int kl j)) (some (.int km j))).run P W = .ok (.slice A j.toNat j.toNat) W := by
  have hel : P.elem t = e := by simp [Program.elem, ht]
  have hu : P.underlying t = some (.slice (P.elem t)) := by rw [hel]; exact ht
  have ha : (A.map fun x => x.add 0) = A := by cases A <;> simp [Addr.add]
  rw [run_slice_hm W t A n c hu kl km j j h0 (by omega) (by omega), hel]
  simp [sizeOf, typeInfo, hi, hsz, sliced, Result.andThen, ha]
/-- the slice with the three cells behind it -/
def longV : Value → Value
  | .slice A n c => .slice A (n + 3) c
  | v => v
theorem long_reads {α : Type} {d : Kd α} {e : Nat} {w : World} {base : Nat} {ok : Nat → Prop} {A : Option Addr} {n c : Nat} {xs : List α} (h : Kd.R d e w base ok (longV (.slice A n c)) xs) : d.C w A (n + 3) xs ∧ n + 3 ≤ c := by
  have h2 := Kd.R_reads' (A := A) (n := n + 3) (c := c) h
  exact ⟨by rw [h2.1]; exact h2.2.2, h2.2.1⟩
/-- Wide's first loop, behind i rounds; its second, at i. -/
def wideA (l : List Int) (i : Nat) : List Int := l.take i ++ List.replicate (l.length + 3 - i) 0
def wideB (l : List Int) (i : Nat) : List Int := l ++ List.replicate (i - l.length) 7 ++ List.replicate (l.length + 3 - i) 0
theorem wideA_zero (l : List Int) : wideA l 0 = List.replicate (l.length + 3) 0 := by simp [wideA]
theorem wideA_length (l : List Int) (i : Nat) (h : i ≤ l.length) : (wideA l i).length = l.length + 3 := by simp [wideA]; omega
theorem wideB_length (l : List Int) (i : Nat) (h : l.length ≤ i) (h2 : i ≤ l.length + 3) : (wideB l i).length = l.length + 3 := by simp [wideB]; omega
theorem wideA_all (l : List Int) : wideA l l.length = wideB l l.length := by simp [wideA, wideB]
theorem wideB_all (l : List Int) : wideB l (l.length + 3) = l ++ [7, 7, 7] := by
  unfold wideB
  rw [show l.length + 3 - l.length = 3 from by omega, show l.length + 3 - (l.length + 3) = 0 from by omega]
  simp [List.replicate]
theorem wideA_succ (l : List Int) (i : Nat) (h : i < l.length) : (wideA l i).set i (rd l i) = wideA l (i + 1) := by
  have hr : rd l (i : Int) = l[i] := by simp [rd, h]
  rw [hr]
  unfold wideA
  have hl : (l.take i).length = i := by simp; omega
  rw [List.set_append_right _ _ (by omega), hl, Nat.sub_self, List.take_succ_eq_append_getElem h, List.append_assoc]
  congr 1
  obtain ⟨m, hm⟩ : ∃ m, l.length + 3 - i = m + 1 := ⟨l.length + 2 - i, by omega⟩
  rw [hm, show l.length + 3 - (i + 1) = m from by omega, List.replicate_succ]
  rfl
theorem wideB_succ (l : List Int) (i : Nat) (h : l.length ≤ i) (h2 : i < l.length + 3) : (wideB l i).set i 7 = wideB l (i + 1) := by
  unfold wideB
  obtain ⟨j, rfl⟩ : ∃ j, i = l.length + j := ⟨i - l.length, by omega⟩
  rw [show l.length + j - l.length = j from by omega, show l.length + j + 1 - l.length = j + 1 from by omega]
  have hl : (l ++ List.replicate j (7 : Int)).length = l.length + j := by simp
  rw [List.set_append_right _ _ (by omega), hl, Nat.sub_self]
  obtain ⟨m, hm⟩ : ∃ m, l.length + 3 - (l.length + j) = m + 1 := ⟨2 - j, by omega⟩
  rw [hm, show l.length + 3 - (l.length + j + 1) = m from by omega, List.replicate_succ, show List.replicate (j + 1) (7 : Int) = List.replicate j 7 ++ [7] from List.replicate_succ']
  simp
theorem long_at (l : List Int) (i : Nat) (h : l.length ≤ i) (h2 : i < l.length + 3) : rd (l ++ [7, 7, 7]) i = 7 := by
  simp only [rd, Int.toNat_natCast]
  obtain ⟨j, rfl⟩ : ∃ j, i = l.length + j := ⟨i - l.length, by omega⟩
  rw [List.getD_eq_getElem?_getD, List.getElem?_append_right (by omega)]
  have hj : j < 3 := by omega
  rw [show l.length + j - l.length = j from by omega]
  match j, hj with
  | 0, _ => rfl
  | 1, _ => rfl
  | 2, _ => rfl
namespace Kr
theorem long_reads {α : Type} {d : Kd α} {e : Nat} {w : World} {base : Nat} {ok : Nat → Prop} {A : Option Addr} {n c : Nat} {xs : List α} (h : R d e w base ok (longV (.slice A n c)) xs) : d.C w A (n + 3) xs ∧ n + 3 ≤ c := Mine.long_reads h.1
end Kr
end Go.Proofs.YtjbpdmkalegacaaW.Mine
