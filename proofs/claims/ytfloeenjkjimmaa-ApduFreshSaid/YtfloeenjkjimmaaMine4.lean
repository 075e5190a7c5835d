import Derived.BigRegion
import Derived.Test.YtfloeenjkjimmaaWWords
import Derived.Test.YtfloeenjkjimmaaWLast
/-! A copy into a cut of a row of one's own; what apdu.Buffer answers. -/
namespace Go.Proofs.YtfloeenjkjimmaaW.Mine
open Go Go.RowKit Go.Proofs.YtfloeenjkjimmaaW.PrintWords Go.Proofs.YtfloeenjkjimmaaW.PrintLast
section
variable {P : Program} {ops : Array Oper} {rest : List Oper} {o : Oper} {a : Act} {Q : Exit → Act → World → Prop} {α : Type}
theorem R_copy_at {enc : α → Value} {h1 : ∀ x, (enc x).oneCell' = true} (d : α) {w0 W : World} (base : Nat) (hgd : o.guard = none) (s x : Operand) (t t' e : TypeId)
    (ho : o.op = .call { callee := .builtin .copy, args := #[s, x], argTypes := #[t, t'] }) (ht : P.underlying t = some (.slice e)) (hinfo : (P.info? e).map (·.size) = some 1)
    (g off n cap dc : Nat) (xs ys : List α) (A : Option Addr) (m c : Nat) (ok : Nat → Prop) (hs : a.eval s = .slice (some ⟨g, off, none⟩) (n - off) dc) (hx : a.eval x = .slice A m c) (hoff : off ≤ n)
    (HO : (Kd.scalar enc h1).R e W base ok (.slice (some ⟨g, 0, none⟩) n cap) xs) (HR : (Kd.scalar enc h1).C W A m ys) (HB : Below base w0 W) (hbase : base ≤ W.heap.size)
    (h : ∀ w1, (Kd.scalar enc h1).R e w1 base ok (.slice (some ⟨g, 0, none⟩) n cap) (xs.take off ++ ys.take (min m (n - off)) ++ xs.drop (off + min m (n - off))) → Below base w0 w1 → W.grownBy w1 (some g) → wpList P ops Q rest (a.put o.dst (.int .i64 ((min m (n - off) : Nat) : Int))) w1) :
    wpList P ops Q (o :: rest) a W := by
  have hR := Kd.reads_of_C (enc := enc) (d := d) (h1 := h1) HR
  have hm : ys.length = m := hR.1
  have hn : n = xs.length := (Kd.R_reads' HO).1
  have hown := Kd.own_of_R HO
  have hbg : base ≤ g := Kd.R_base HO g (by simp [Value.ownBlock])
  have fin : ∀ w1, (Builtin.copy_ #[t, t'] o.type #[.slice (some ⟨g, off, none⟩) (n - off) dc, .slice A m c]).run P W = .ok (goInt ((min m (n - off) : Nat) : Int)) w1 → (Kd.scalar enc h1).R e w1 base ok (.slice (some ⟨g, 0, none⟩) n cap) (xs.take off ++ ys.take (min m (n - off)) ++ xs.drop (off + min m (n - off))) → W.grownBy w1 (some g) → wpList P ops Q (o :: rest) a W := by
    intro w1 hr hrow hg
    refine wpList_plain hgd fun K hK => ?_
    unfold Oper.wp execOp
    simp only [ho, resolve, invoke, builtin, Sem.run_bind, Sem.run_pure, Result.andThen_ok, List.map_toArray, List.map_cons, List.map_nil, hs, hx, hr]
    exact hK _ _ (h w1 hrow (HB.grown hg hbase (fun k hk => by cases hk; exact hbg)) hg)
  rcases Nat.eq_zero_or_pos (min m (n - off)) with h0 | hp
  · refine fin W ?_ (by rw [h0, List.take_zero, Nat.add_zero, List.append_nil, List.take_append_drop]; exact HO) (World.grownBy.refl W _)
    rw [h0]
    exact run_copy_none W t t' o.type e _ A (n - off) dc m c ht hinfo h0
  · obtain ⟨ad, hA, hc⟩ := hR.2.2 (by omega)
    rcases hown.2 with ⟨hv, _⟩ | ⟨g', cap', cur, hv, hb, hh, hnc, hcm, hcs, htake⟩
    · cases hv
    · injection hv with h1_ h2_ h3_
      injection h1_ with h1_
      injection h1_ with h1_
      subst h1_ h3_
      have hcs1 : cur.size = cap := by omega
      have hsrc : ∀ j u, (encs enc (ys.take (min m (n - off))))[j]? = some u → W.cell? (ad.add j) = some u := by
        intro j u hu
        have hj : j < (ys.take (min m (n - off))).length := by
          rcases Nat.lt_or_ge j (ys.take (min m (n - off))).length with h | h
          · exact h
          · rw [List.getElem?_eq_none (by rw [encs_length]; exact h)] at hu
            cases hu
        have hjm : j < min m (n - off) := by rw [List.length_take] at hj; omega
        rw [encs_get (d := d) _ j hj] at hu
        rw [hc j (by omega), ← hu]
        simp [List.getD_eq_getElem?_getD, hjm]
      have hkl : (encs enc (ys.take (min m (n - off)))).length = min m (n - off) := by rw [encs_length, List.length_take]; omega
      have hr := run_copy_cells (P := P) W t t' o.type e g off (n - off) dc ad m c (encs enc (ys.take (min m (n - off)))) ht hinfo (by rw [hkl]) hsrc
        (fun j hj => by rw [cell_of_row W g _ cur e (0, 0) hh]; simp; omega) (fun j _ => blk_frozen hh _) (by intro u hu; simp only [encs, List.mem_map] at hu; obtain ⟨q, _, rfl⟩ := hu; exact h1 q)
      obtain ⟨cur', h3, h4, h5⟩ := setCells_row (encs enc (ys.take (min m (n - off)))) off W cur hh (by rw [hkl]; omega)
      obtain ⟨s1, s2, s3, s4⟩ := setCells_same g (encs enc (ys.take (min m (n - off)))) off W
      refine fin _ (by rw [hA, hr, hkl]) ?_ ⟨s1, s2, s3, by rw [s4]; exact Nat.le_refl _, fun k _ hk => setCells_far _ _ k (fun he => hk (by rw [he]))⟩
      have hln : (xs.take off ++ ys.take (min m (n - off)) ++ xs.drop (off + min m (n - off))).length = n := by
        rw [List.length_append, List.length_append, List.length_take, List.length_take, List.length_drop]
        omega
      refine Kd.R_of_own ?_ HO.1
      rw [hln]
      refine ⟨by rw [encs_length, hln, Nat.mul_one], .inr ⟨g, cap, cur', rfl, hb, h3, by omega, hcm, by rw [h4, hcs], ?_⟩⟩
      have htk : cur.toList.take n = encs enc xs := by
        have := htake
        rw [← hn, Nat.mul_one] at this
        exact this
      rw [h5, hkl, encs_append, encs_append, Nat.mul_one]
      have hd : encs enc (xs.drop (off + min m (n - off))) = (encs enc xs).drop (off + min m (n - off)) := by simp [encs, List.map_drop]
      have ht2 : encs enc (xs.take off) = (encs enc xs).take off := by simp [encs, List.map_take]
      rw [hd, ht2, ← htk, List.take_take, Nat.min_eq_left hoff, List.drop_take]
      have hl1 : (cur.toList.take off).length = off := by rw [List.length_take, Array.length_toList]; omega
      rw [List.take_append, List.length_append, hl1, hkl]
      rw [List.take_of_length_le (l := cur.toList.take off ++ _) (by rw [List.length_append, hl1, hkl]; omega)]
theorem own_shape {enc : α → Value} {h1 : ∀ x, (enc x).oneCell' = true} {W : World} {base e : Nat} {ok : Nat → Prop} {v : Value} {xs : List α} (HO : (Kd.scalar enc h1).R e W base ok v xs) (h : 0 < xs.length) : ∃ g cap, v = .slice (some ⟨g, 0, none⟩) xs.length cap := by
  rcases (Kd.own_of_R HO).2 with ⟨_, h0⟩ | ⟨g, cap, cur, hv, _⟩
  · omega
  · exact ⟨g, cap, hv⟩
theorem lit_reads (W : World) (e : TypeId) (xs : List Int) (h : xs.length ≤ 1000) : (Kd.int .u8).C (W.alloc (.cells (xs.map (Value.int .u8)).toArray e (0, 0))) (some ⟨W.heap.size, 0, none⟩) xs.length xs := by
  refine Kd.C_of_reads (d := 0) (h1 := fun _ => rfl) ⟨rfl, by omega, fun _ => ⟨_, rfl, fun j hj => ?_⟩⟩
  rw [show (⟨W.heap.size, 0, none⟩ : Addr).add j = ⟨W.heap.size, j, none⟩ from by simp [Addr.add]; exact fun h => h.symm, blk_cell (blk_new W _) j]
  simp [List.getD_eq_getElem?_getD, hj]
end
/-- what apdu.Buffer answers -/
def bufS (a b c d : Int) (l : List Int) : List Int :=
  [a, b, c, d, ((min l.length 255 : Nat) : Int)] ++ l.take 255 ++ List.replicate (256 - min l.length 255) 0
theorem bufS_of (a b c d n : Int) (l y1 y2 : List Int) (m : Nat) (hm : m = min l.length 255) (hn : n = ((min l.length 255 : Nat) : Int))
    (h1 : y1 = (List.replicate 261 0).take 0 ++ [a, b, c, d, n].take (min 5 (261 - 0)) ++ (List.replicate 261 0).drop (0 + min 5 (261 - 0)))
    (h2 : y2 = y1.take 5 ++ (l.take 255).take (min m (261 - 5)) ++ y1.drop (5 + min m (261 - 5))) : y2 = bufS a b c d l := by
  have e1 : y1 = [a, b, c, d, n] ++ List.replicate 256 0 := by rw [h1]; rfl
  have hmm : min m (261 - 5) = m := by omega
  rw [h2, hmm, e1]
  subst hn
  unfold bufS
  rw [List.take_append_of_le_length (by simp), List.drop_append, List.take_of_length_le (by simp), List.drop_eq_nil_of_le (by simp), List.nil_append]
  simp only [List.length_cons, List.length_nil, Nat.zero_add, Nat.reduceAdd, Nat.add_sub_cancel_left, List.drop_replicate]
  rw [List.take_take, hm]
  rw [show min (min l.length 255) 255 = min l.length 255 from by omega]
  congr 2
  rw [List.take_eq_take_iff]
  omega
end Go.Proofs.YtfloeenjkjimmaaW.Mine
