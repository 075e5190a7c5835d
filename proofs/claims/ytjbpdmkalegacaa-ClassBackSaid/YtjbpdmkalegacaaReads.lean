/- What came in, read as values: numbers, bools, slices, structs, in one another; with the bounds that a row gives. Over any program. -/
import Derived.Test.YtjbpdmkalegacaaMiniW
import Derived.Test.YtjbpdmkalegacaaMine
import Derived.ChangeArms
import Derived.DataReads
import Derived.SizedLaws
import Derived.ChangeSame
import Derived.WideShapes
import Derived.DataElems
namespace Go.Proofs.YtjbpdmkalegacaaW.Reads
open Go Go.RowKit Go.ChangeShapes Go.WideShapes Go.Proofs.YtjbpdmkalegacaaW.PrintWords
section
variable {H : Type} {enc : TypeId × Value → H} {P : Program} {w : World} {base : Nat} {spare : Nat → Bool} {held : Bool}

/-- Whatever reads as data of type t is of the kind d, and good. -/
def Rd {α : Type} (enc : TypeId × Value → H) (P : Program) (w : World) (base : Nat) (spare : Nat → Bool) (held : Bool) (d : Kd α) (good : α → Prop) (t : TypeId) : Prop :=
  ∀ (fuel : Nat) (cs : List Value) (x : DataW H × List MemPlace), DataW.trod enc P w base spare held fuel t cs = some x → (∀ m ∈ x.1.weights P t, m ≤ reachBytes) → ∃ a, d.K w a cs ∧ good a
def RdFs {α : Type} (enc : TypeId × Value → H) (P : Program) (w : World) (base : Nat) (spare : Nat → Bool) (held : Bool) (d : Kd α) (good : α → Prop) (off : Nat) (fs : List Field) : Prop :=
  ∀ (n : Nat) (cs : List Value) (ys : List (DataW H × List MemPlace)), ys.length = fs.length → off + d.sz ≤ cs.length →
    (∀ (i : Nat) (f : Field), fs[i]? = some f → DataW.trod enc P w base spare held n f.type ((cs.drop f.offset).take (P.cellsOf f.type)) = ys[i]?) →
    (∀ m ∈ DataW.weightsEach P (fs.map (·.type)) (ys.map (·.1)), m ≤ reachBytes) → ∃ a, d.K w a ((cs.drop off).take d.sz) ∧ good a

theorem rd_int {t : TypeId} {k : IntKind} (ht : P.underlying t = some (.int k)) : Rd enc P w base spare held (Kd.int k) (fun n => (Lit.int k n).wf = true) t := by
  intro fuel cs x h _
  obtain ⟨n, rfl, _, hw⟩ := DataW.trod_int ht h
  exact ⟨n, rfl, hw⟩
theorem rd_bool {t : TypeId} (ht : P.underlying t = some .bool) : Rd enc P w base spare held Kd.bool (fun _ => True) t := by
  intro fuel cs x h _
  obtain ⟨n, rfl, _⟩ := DataW.trod_bool ht h
  exact ⟨n, rfl, trivial⟩
theorem weightsAll_mem {e : TypeId} : ∀ {l : List (DataW H)} {d : DataW H}, d ∈ l → ∀ m ∈ d.weights P e, m ∈ DataW.weightsAll P e l
  | x :: l, d, hd, m, hm => by
    simp only [DataW.weightsAll, List.mem_append]
    rcases List.mem_cons.1 hd with rfl | hd
    · exact .inl hm
    · exact .inr (weightsAll_mem hd m hm)
theorem rd_slice {α : Type} {d : Kd α} {good : α → Prop} {t e B : Nat} (ht : P.underlying t = some (.slice e)) (hc : P.cellsOf e = d.sz) (hB : P.bytesOf e = B) (h : Rd enc P w base spare held d good e) :
    Rd enc P w base spare held (Kd.slice e d) (fun xs => xs.length ≤ maxLen ∧ xs.length * B ≤ 140737488351232 ∧ ∀ x ∈ xs, good x) t := by
  intro fuel cs x hx hw
  rcases DataW.trod_slice ht hx with ⟨rfl, _⟩ | ⟨a, len, cap, elems, rest, n, _, rfl, rfl, hb, hl, hm, hlen, hel, _, _⟩
  · exact ⟨[], ⟨none, 0, rfl, by simp, rfl, by simp, fun h => by simp at h⟩, by simp, by simp, fun x hx => by cases hx⟩
  · have hw0 := hw
    simp only [DataW.weights, ht, List.length_map, List.mem_cons, List.mem_append] at hw
    have hsz : (elems.length + rest.length) * P.bytesOf e ≤ reachBytes := hw _ (.inl rfl)
    have each : ∀ i : Fin len, ∃ p : α, ∃ c, c.length = d.sz ∧ d.K w p c ∧ good p ∧ ∀ j u, c[j]? = some u → w.cell? (a.add (i.1 * d.sz + j)) = some u := by
      intro i
      have hi := hel i.1 i.2
      rw [List.getElem?_eq_getElem (by omega)] at hi
      obtain ⟨cs', h1, h2⟩ := Option.bind_eq_some_iff.1 hi
      obtain ⟨_, hcl, hat⟩ := World.cells?_some h1
      obtain ⟨p, hK, hg⟩ := h n cs' _ h2 (fun m hm => hw m (.inr (.inl (weightsAll_mem (List.mem_map.2 ⟨_, List.getElem_mem (by omega : i.1 < elems.length), rfl⟩) m hm))))
      refine ⟨p, cs', by rw [hcl, hc], hK, hg, fun j u hj => ?_⟩
      have hjl : j < cs'.length := (List.getElem?_eq_some_iff.1 hj).1
      have := hat j (by omega)
      rw [hc, Addr.add_add] at this
      rw [this, hj]
    refine ⟨List.ofFn (fun i => Classical.choose (each i)), ⟨some a, cap, by simp, by simpa using hl, by simp, by simp only [List.length_ofFn]; simp only [maxLen] at hm; omega, fun _ => ⟨a, rfl, fun j p hj => ?_⟩⟩, by simp only [List.length_ofFn]; omega, ?_, fun x hx => ?_⟩
    · obtain ⟨hjl, hp⟩ := List.getElem?_eq_some_iff.1 hj
      simp only [List.length_ofFn] at hjl
      simp only [List.getElem_ofFn] at hp
      obtain ⟨c, h1, h2, _, h3⟩ := Classical.choose_spec (each ⟨j, hjl⟩)
      rw [hp] at h2
      exact ⟨c, h1, h2, h3⟩
    · simp only [List.length_ofFn]
      rw [← hB]
      have h2 : reachBytes = 140737488351232 := rfl
      have := Nat.mul_le_mul_right (P.bytesOf e) (by omega : len ≤ elems.length + rest.length)
      omega
    · obtain ⟨i, rfl⟩ := (List.mem_ofFn.1 hx : ∃ i, _ = x)
      obtain ⟨c, _, _, hg, _⟩ := Classical.choose_spec (each i)
      exact hg
theorem rdfs_one {α : Type} {d : Kd α} {good : α → Prop} {off : Nat} {f : Field} (ho : f.offset = off) (hc : P.cellsOf f.type = d.sz) (h : Rd enc P w base spare held d good f.type) : RdFs enc P w base spare held d good off [f] := by
  intro n cs ys hl _ ht hw
  have h0 := ht 0 f rfl
  match ys, hl with
  | [y], _ =>
    rw [ho, hc] at h0
    refine h n _ y h0 (fun m hm => hw m ?_)
    simp only [List.map_cons, List.map_nil, DataW.weightsEach, List.mem_append]
    exact .inl hm
theorem rdfs_cons {α β : Type} {d : Kd α} {d' : Kd β} {good : α → Prop} {good' : β → Prop} {off : Nat} {f : Field} {fs : List Field} (ho : f.offset = off) (hc : P.cellsOf f.type = d.sz) (h : Rd enc P w base spare held d good f.type)
    (h' : RdFs enc P w base spare held d' good' (off + d.sz) fs) : RdFs enc P w base spare held (Kd.pair d d') (fun p => good p.1 ∧ good' p.2) off (f :: fs) := by
  intro n cs ys hl hlen ht hw
  match ys, hl with
  | y :: ys, hl =>
    have h0 := ht 0 f rfl
    rw [ho, hc] at h0
    simp only [List.map_cons, DataW.weightsEach, List.mem_append] at hw
    have hsz : (Kd.pair d d').sz = d.sz + d'.sz := rfl
    rw [hsz] at hlen
    obtain ⟨a, hK, hg⟩ := h n _ y h0 (fun m hm => hw m (.inl hm))
    obtain ⟨b, hK', hg'⟩ := h' n cs ys (by simpa using hl) (by omega) (fun i f hf => by have := ht (i + 1) f (by simpa using hf); simpa using this) (fun m hm => hw m (.inr hm))
    refine ⟨(a, b), ⟨_, _, ?_, hK, hK'⟩, hg, hg'⟩
    rw [hsz, List.take_add, List.drop_drop]
theorem rd_struct {α : Type} {d : Kd α} {good : α → Prop} {t : TypeId} {fs : Array Field} (ht : P.underlying t = some (.struct fs)) (hc : P.cellsOf t = d.sz) (h : RdFs enc P w base spare held d good 0 fs.toList) : Rd enc P w base spare held d good t := by
  intro fuel cs x hx hw
  obtain ⟨ys, n, _, rfl, hl, hyl, hf⟩ := DataW.trod_struct ht hx
  simp only [DataW.weights, ht] at hw
  obtain ⟨a, hK, hg⟩ := h n cs ys (by simpa using hyl) (by omega) (fun i f hi => hf i f (by simpa using hi)) hw
  refine ⟨a, ?_, hg⟩
  rw [List.drop_zero, List.take_of_length_le (by omega)] at hK
  exact hK
theorem rd_iso {α β : Type} {d : Kd α} {good : α → Prop} {t : TypeId} {f : β → α} (g : α → β) (hg : ∀ a, f (g a) = a) (h : Rd enc P w base spare held d good t) : Rd enc P w base spare held (Kd.iso d f) (fun b => good (f b)) t := by
  intro fuel cs x hx hw
  obtain ⟨a, hK, hgood⟩ := h fuel cs x hx hw
  refine ⟨g a, ?_, ?_⟩
  · show d.K w (f (g a)) cs
    rw [hg]; exact hK
  · show good (f (g a))
    rw [hg]; exact hgood
/-- An argument. -/
theorem rd_arg {α : Type} {d : Kd α} {good : α → Prop} {t : TypeId} {v : Value} {x : DataW H} {ps : List MemPlace} {ts : List TypeId} {ds : List (DataW H)} {j : Nat} (h : Rd enc P w base spare held d good t)
    (hsz : (DataW.weightsEach P ts ds).all (· ≤ reachBytes) = true) (ht : ts[j]? = some t) (hd : ds[j]? = some x) (hx : DataW.Trod enc P w base spare held t v x ps) : ∃ a, d.K w a v.cells.toList ∧ good a := by
  obtain ⟨fuel, hf⟩ := hx
  refine h fuel _ _ hf (fun m hm => ?_)
  have := List.all_eq_true.1 hsz m (DataW.weights_mem_each ht hd m hm)
  simpa using this
end
end Go.Proofs.YtjbpdmkalegacaaW.Reads
