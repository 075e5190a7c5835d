import Derived.Test.YtechlmlokgjlnaaWWords
import Derived.Laws.Rows
import Derived.Laws.Cover3
import Derived.Laws.StructEq
import Derived.ChangeKeysEq
/-! Arrays of four and of five bytes: loaded, compared. -/
namespace Go.Proofs.YtechlmlokgjlnaaW.Mine
open Go Go.RowKit Go.Proofs.YtechlmlokgjlnaaW.PrintWords
section
variable {P : Program} {t e n : Nat}
theorem run_isAgg_arr (w : World) (ht : P.underlying t = some (.array n e)) : (isAgg t).run P w = .ok true w := by
  simp [isAgg, run_underlying ht]
theorem run_loadAt_arr (w : World) {i : TypeInfo} (ht : P.underlying t = some (.array n e)) (hi : P.info? t = some i) (ad : Addr) (cs : List Value) (hn : i.size = cs.length) (h : ∀ j v, cs[j]? = some v → w.cell? (ad.add j) = some v) :
    (Instr.loadAt t (.pointer (some ad))).run P w = .ok (.agg cs.toArray) w := by
  simp [Instr.loadAt, Instr.sureAddr, loadVar, run_isAgg_arr w ht, sizeOf, typeInfo, hi, hn, run_loadCells_list w ad cs h]
theorem run_part_u8 (w : World) {k : IntKind} (he : P.underlying e = some (.int k)) (cs : Array Value) (j : Nat) (v : Value) (h : cs[j]? = some v) : (part e cs j).run P w = .ok v w := by
  simp [part, isAgg, run_underlying he, h]
theorem run_equalIn_int' (w : World) (d : Nat) {k : IntKind} (he : P.underlying e = some (.int k)) (a b : Int) : (Op.equalIn (d + 1) e (.int .u8 a) (.int .u8 b)).run P w = .ok (a == b) w := by
  simp [Op.equalIn, run_underlying he]
theorem run_eqItems_u8 {d : Nat} {k : IntKind} (he : P.underlying e = some (.int k)) : ∀ (w : World) (xs ys : List Int) (m : Nat) (is : List Nat), is = List.range' m is.length → m + is.length ≤ xs.length → m + is.length ≤ ys.length →
    (Op.eqItems (d + 1) e 1 (xs.map (Value.int .u8)).toArray (ys.map (Value.int .u8)).toArray is).run P w = .ok (decide ((xs.drop m).take is.length = (ys.drop m).take is.length)) w
  | w, xs, ys, m, [], _, _, _ => by simp [Op.eqItems]
  | w, xs, ys, m, i :: is, hi, hx, hy => by
    simp only [List.length_cons] at hi hx hy
    rw [List.range'_succ, List.cons.injEq] at hi
    obtain ⟨rfl, hi⟩ := hi
    have ih := run_eqItems_u8 (d := d) he w xs ys (i + 1) is hi (by omega) (by omega)
    have h1 : i < xs.length := by omega
    have h2 : i < ys.length := by omega
    have p1 := run_part_u8 (P := P) (e := e) w he (xs.map (Value.int .u8)).toArray (i * 1) (.int .u8 xs[i]) (by simp [h1])
    have p2 := run_part_u8 (P := P) (e := e) w he (ys.map (Value.int .u8)).toArray (i * 1) (.int .u8 ys[i]) (by simp [h2])
    simp only [Op.eqItems, Sem.run_bind, p1, p2, Result.andThen_ok, run_equalIn_int' w d he]
    rw [List.length_cons, List.drop_eq_getElem_cons h1, List.drop_eq_getElem_cons h2, List.take_succ_cons, List.take_succ_cons]
    have hd : decide (xs[i] :: List.take is.length (List.drop (i + 1) xs) = ys[i] :: List.take is.length (List.drop (i + 1) ys)) = (decide (xs[i] = ys[i]) && decide (List.take is.length (List.drop (i + 1) xs) = List.take is.length (List.drop (i + 1) ys))) := by
      rw [← Bool.decide_and, decide_eq_decide, List.cons.injEq]
    rw [hd]
    by_cases hq : xs[i] = ys[i]
    · simp only [hq, beq_self_eq_true, Bool.not_true, Bool.false_eq_true, if_false, decide_true, Bool.true_and]
      exact ih
    · have hf : (xs[i] == ys[i]) = false := by simpa using hq
      simp [hf, hq]
theorem run_eql_arr (w : World) {k : IntKind} {i : TypeInfo} (ht : P.underlying t = some (.array n e)) (he : P.underlying e = some (.int k)) (hi : P.info? e = some i) (hc : P.cellsOf e = 1) (xs ys : List Int) (hx : xs.length = n) (hy : ys.length = n) :
    (binOp .eql t (.agg (xs.map (Value.int .u8)).toArray) (.agg (ys.map (Value.int .u8)).toArray)).run P w = .ok (.bool (decide (xs = ys))) w := by
  rw [run_eql_struct, run_equalIn_array w 9999 _ _ ht hi, hc]
  have h := run_eqItems_u8 (P := P) (e := e) (d := 9998) he w xs ys 0 (List.range n) (by rw [List.length_range, List.range_eq_range']) (by simp; omega) (by simp; omega)
  rw [h]
  simp [List.take_of_length_le (Nat.le_of_eq hx), List.take_of_length_le (Nat.le_of_eq hy)]
end
end Go.Proofs.YtechlmlokgjlnaaW.Mine
