/- Words of this session's own, over any program: bytealg's Compare at two slices of bytes. -/
import Derived.Test.YtdplpkngacfacaaMine
import Derived.Lib.BytesEntry
import Derived.Laws.Externs
namespace Go.Proofs.YtdplpkngacfacaaW.Mine
open Go Go.RowKit Go.Proofs.YtdplpkngacfacaaW.PrintWords

theorem run_bytesOfSlice {P : Program} {w : World} {A : Option Addr} {c : Nat} {xs : List Int} (h : Kd.C (Kd.int .u8) w A xs.length xs) :
    (Extern.Bytes.bytesOf (.slice A xs.length c)).run P w = .ok ⟨(Lib.bytesOf xs).toArray⟩ w := by
  cases A with
  | none =>
    obtain rfl := C_none h
    rfl
  | some a =>
    have hl := Lib.run_loadBytesX (P := P) w xs a .empty (fun j x hj => by
      have hjl : j < xs.length := (List.getElem?_eq_some_iff.1 hj).1
      obtain ⟨ad, he, hc⟩ := h.2.2 (by omega)
      obtain rfl := Option.some.inj he
      obtain ⟨c0, h1, h2, h3⟩ := hc j x hj
      have h4 := h3 0 (.int .u8 x) (by rw [show c0 = [.int .u8 x] from h2]; rfl)
      simpa [Kd.int, Kd.scalar] using h4)
    have he : (⟨ByteArray.empty.data ++ (Lib.bytesOf xs).toArray⟩ : ByteArray) = ⟨(Lib.bytesOf xs).toArray⟩ := by
      apply ByteArray.ext
      show (#[] : Array UInt8) ++ (Lib.bytesOf xs).toArray = (Lib.bytesOf xs).toArray
      simp
    rw [he] at hl
    exact hl
theorem run_compareSlices {P : Program} (w : World) {A A' : Option Addr} {c c' : Nat} {xs ys : List Int} (h : Kd.C (Kd.int .u8) w A xs.length xs) (h' : Kd.C (Kd.int .u8) w A' ys.length ys) :
    (Extern.BytealgCompare.compare #[.slice A xs.length c, .slice A' ys.length c']).run P w = .ok (.int .i64 (Lib.compareBytes (Lib.bytesOf xs) (Lib.bytesOf ys))) w := by
  change Sem.run P (do pure (goInt (Extern.BytealgCompare.cmp (← Extern.Bytes.bytesOf (.slice A xs.length c)) (← Extern.Bytes.bytesOf (.slice A' ys.length c'))))) w = _
  simp only [Sem.run_bind, run_bytesOfSlice h, run_bytesOfSlice h', Result.andThen, Sem.run_pure]
  rw [Lib.cmp_eq]
  rfl
end Go.Proofs.YtdplpkngacfacaaW.Mine
