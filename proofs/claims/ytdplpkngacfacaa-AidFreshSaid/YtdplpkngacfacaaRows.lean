/-
  No cell of these rows narrows 'for every input' (looked for: loops, veiled, ifaces, maps, wideKeys, modest, calm, conditions, laid).
  DERIVED. THE GIVEN ROWS OF THIS SEAT. 6 by the template 'for every input the law returns true; each argument reads behind the call as it read before'; 0 by the template 'total and deterministic' (their statements: YtdplpkngacfacaaTotals.lean).
  GIVEN WITH THE SEED: the statements are not yours to turn. If you find one false, say at which input.
  Laid BY PROGRAM, IN A SANDBOX (cutbox-rows.mjs): the forced cells as the released guide's own fill.sh prints them over the translation 8f5e26a77414f9d7… (all of the seat's roots in one cut). By AI agents, Wed Nov 11 2026. No macro, syntax, notation, axiom, sorry.
-/
import Derived.Test.YtdplpkngacfacaaChecked
import GoSem.Claim
import GoSem.ClaimJoined
import GoSem.ClaimMapViews
import Derived.JoinedTies
import Derived.KernelRfl
namespace Go.Proofs.Ytdplpkngacfacaa
/- THE CELL 'sum', in the pinned program and in every row, IS THE sha256 OF THE DUMP (.gsa) THAT YtdplpkngacfacaaProg.lean LOADS. Nothing in Lean hashes anything: it is a label: what it is worth is what the hold of that sum in a sandbox is worth. -/
noncomputable def Try.pinned : Pinned := { name := "ytdplpkngacfacaa", sum := "8f5e26a77414f9d7dc7b2464df458e1bf6be8d8789b9a7765e68edba4fc6b615", checked := Try.checked }
namespace Rows
def none {H : Type} : Left H := { results := [], args := [] }

/-- 'garderobelaw03.AidServes': WHATEVER THE INPUT: true; the input reads as it did. -/
def aidServesSpec : ChangeSpec := { name := "aidServes", fn := fun _ => fun
  | [d1, d2, d3] => { results := [.lit (.bool true)], args := [d1, d2, d3] }
  | _ => none }
def aidServesRow : OpenClaim := { program := "ytdplpkngacfacaa", sum := "8f5e26a77414f9d7dc7b2464df458e1bf6be8d8789b9a7765e68edba4fc6b615", func := "garderobe/garderobelaw03.AidServes", spec := "aidServes", apart := false }
def AidServesSaid : Prop := aidServesRow.holds Try.pinned (OpenSpec.ofChange aidServesSpec)

/-- ITS FALSE NEIGHBOUR: 'it returns false'. Refute it at one input. -/
def aidServesWrong : ChangeSpec := { name := "aidServes", fn := fun _ => fun
  | [d1, d2, d3] => { results := [.lit (.bool false)], args := [d1, d2, d3] }
  | _ => none }
def AidServesWrongFalsely : Prop := aidServesRow.holds Try.pinned (OpenSpec.ofChange aidServesWrong)

/-- 'garderobelaw03.AidOrder': WHATEVER THE INPUT: true; the input reads as it did. -/
def aidOrderSpec : ChangeSpec := { name := "aidOrder", fn := fun _ => fun
  | [d1, d2, d3] => { results := [.lit (.bool true)], args := [d1, d2, d3] }
  | _ => none }
def aidOrderRow : OpenClaim := { program := "ytdplpkngacfacaa", sum := "8f5e26a77414f9d7dc7b2464df458e1bf6be8d8789b9a7765e68edba4fc6b615", func := "garderobe/garderobelaw03.AidOrder", spec := "aidOrder", inPlace := ["internal/bytealg.Compare"], apart := false }
def AidOrderSaid : Prop := aidOrderRow.holds Try.pinned (OpenSpec.ofChange aidOrderSpec)

/-- ITS FALSE NEIGHBOUR: 'it returns false'. Refute it at one input. -/
def aidOrderWrong : ChangeSpec := { name := "aidOrder", fn := fun _ => fun
  | [d1, d2, d3] => { results := [.lit (.bool false)], args := [d1, d2, d3] }
  | _ => none }
def AidOrderWrongFalsely : Prop := aidOrderRow.holds Try.pinned (OpenSpec.ofChange aidOrderWrong)

/-- 'garderobelaw03.AidCompares': WHATEVER THE INPUT: true; the input reads as it did. -/
def aidComparesSpec : ChangeSpec := { name := "aidCompares", fn := fun _ => fun
  | [d1, d2, d3, d4] => { results := [.lit (.bool true)], args := [d1, d2, d3, d4] }
  | _ => none }
def aidComparesRow : OpenClaim := { program := "ytdplpkngacfacaa", sum := "8f5e26a77414f9d7dc7b2464df458e1bf6be8d8789b9a7765e68edba4fc6b615", func := "garderobe/garderobelaw03.AidCompares", spec := "aidCompares", inPlace := ["internal/bytealg.Compare"], apart := false }
def AidComparesSaid : Prop := aidComparesRow.holds Try.pinned (OpenSpec.ofChange aidComparesSpec)

/-- ITS FALSE NEIGHBOUR: 'it returns false'. Refute it at one input. -/
def aidComparesWrong : ChangeSpec := { name := "aidCompares", fn := fun _ => fun
  | [d1, d2, d3, d4] => { results := [.lit (.bool false)], args := [d1, d2, d3, d4] }
  | _ => none }
def AidComparesWrongFalsely : Prop := aidComparesRow.holds Try.pinned (OpenSpec.ofChange aidComparesWrong)

/-- 'garderobelaw03.AidPuts': WHATEVER THE INPUT: true; the input reads as it did. -/
def aidPutsSpec : ChangeSpec := { name := "aidPuts", fn := fun _ => fun
  | [d1, d2, d3] => { results := [.lit (.bool true)], args := [d1, d2, d3] }
  | _ => none }
def aidPutsRow : OpenClaim := { program := "ytdplpkngacfacaa", sum := "8f5e26a77414f9d7dc7b2464df458e1bf6be8d8789b9a7765e68edba4fc6b615", func := "garderobe/garderobelaw03.AidPuts", spec := "aidPuts", apart := false }
def AidPutsSaid : Prop := aidPutsRow.holds Try.pinned (OpenSpec.ofChange aidPutsSpec)

/-- ITS FALSE NEIGHBOUR: 'it returns false'. Refute it at one input. -/
def aidPutsWrong : ChangeSpec := { name := "aidPuts", fn := fun _ => fun
  | [d1, d2, d3] => { results := [.lit (.bool false)], args := [d1, d2, d3] }
  | _ => none }
def AidPutsWrongFalsely : Prop := aidPutsRow.holds Try.pinned (OpenSpec.ofChange aidPutsWrong)

/-- 'garderobelaw03.AidBack': WHATEVER THE INPUT: true; the input reads as it did. -/
def aidBackSpec : ChangeSpec := { name := "aidBack", fn := fun _ => fun
  | [d1, d2, d3] => { results := [.lit (.bool true)], args := [d1, d2, d3] }
  | _ => none }
def aidBackRow : OpenClaim := { program := "ytdplpkngacfacaa", sum := "8f5e26a77414f9d7dc7b2464df458e1bf6be8d8789b9a7765e68edba4fc6b615", func := "garderobe/garderobelaw03.AidBack", spec := "aidBack", apart := false }
def AidBackSaid : Prop := aidBackRow.holds Try.pinned (OpenSpec.ofChange aidBackSpec)

/-- ITS FALSE NEIGHBOUR: 'it returns false'. Refute it at one input. -/
def aidBackWrong : ChangeSpec := { name := "aidBack", fn := fun _ => fun
  | [d1, d2, d3] => { results := [.lit (.bool false)], args := [d1, d2, d3] }
  | _ => none }
def AidBackWrongFalsely : Prop := aidBackRow.holds Try.pinned (OpenSpec.ofChange aidBackWrong)

/-- 'garderobelaw03.AidFresh': WHATEVER THE INPUT: true; the input reads as it did. -/
def aidFreshSpec : ChangeSpec := { name := "aidFresh", fn := fun _ => fun
  | [d1, d2] => { results := [.lit (.bool true)], args := [d1, d2] }
  | _ => none }
def aidFreshRow : OpenClaim := { program := "ytdplpkngacfacaa", sum := "8f5e26a77414f9d7dc7b2464df458e1bf6be8d8789b9a7765e68edba4fc6b615", func := "garderobe/garderobelaw03.AidFresh", spec := "aidFresh", apart := false }
def AidFreshSaid : Prop := aidFreshRow.holds Try.pinned (OpenSpec.ofChange aidFreshSpec)

/-- ITS FALSE NEIGHBOUR: 'it returns false'. Refute it at one input. -/
def aidFreshWrong : ChangeSpec := { name := "aidFresh", fn := fun _ => fun
  | [d1, d2] => { results := [.lit (.bool false)], args := [d1, d2] }
  | _ => none }
def AidFreshWrongFalsely : Prop := aidFreshRow.holds Try.pinned (OpenSpec.ofChange aidFreshWrong)

/- THE SECOND FORM. 'bulk': how many values and letters a reading holds, each counted each time it is reached (what is shared counts as often as it is met; a slice's spare places count too). A statement '..UptoSaid' is the law's where the arguments, and the package variables that the reading takes, are together of bulk at most 1048576: NARROWER than '..Said'. Prove '..Said' where nothing that the law and all that it calls make is longer than what came in: it says more and counts as full. Else prove '..UptoSaid'. A law counts once. -/
mutual
def uptoBulk {H : Type} : DataW H → Nat
  | .lit (.string bytes) => bytes.length + 1
  | .lit _ => 1
  | .nil => 1
  | .ptr d => uptoBulk d + 1
  | .slice elems spare => uptoBulkAll elems + uptoBulkAll spare + 1
  | .agg parts => uptoBulkAll parts + 1
  | .iface _ d => uptoBulk d + 1
  | .map entries => uptoBulkEntries entries + 1
  | .held _ => 1
def uptoBulkAll {H : Type} : List (DataW H) → Nat
  | [] => 0
  | d :: r => uptoBulk d + uptoBulkAll r
def uptoBulkEntries {H : Type} : List (Lit × DataW H) → Nat
  | [] => 0
  | x :: r => uptoBulkEntry x + uptoBulkEntries r
def uptoBulkEntry {H : Type} : Lit × DataW H → Nat
  | (.string bytes, d) => bytes.length + uptoBulk d + 1
  | (_, d) => uptoBulk d + 1
 end
def uptoSmall : (H : Type) → List (DataW H) → Bool := fun _ ds => decide (uptoBulkAll ds ≤ 1048576)
def OpenSpec.upto (s : _root_.Go.ChangeSpec) : _root_.Go.OpenSpec := { _root_.Go.OpenSpec.ofChange s with cond := some uptoSmall }

/-- 'garderobelaw03.AidServes', WHERE WHAT IT READS IS OF BULK AT MOST 1048576: true; the input reads as it did. -/
def aidServesUptoRow : OpenClaim := { program := "ytdplpkngacfacaa", sum := "8f5e26a77414f9d7dc7b2464df458e1bf6be8d8789b9a7765e68edba4fc6b615", func := "garderobe/garderobelaw03.AidServes", spec := "aidServes", apart := false, narrowed := true }
def AidServesUptoSaid : Prop := aidServesUptoRow.holds Try.pinned (OpenSpec.upto aidServesSpec)

/-- 'garderobelaw03.AidOrder', WHERE WHAT IT READS IS OF BULK AT MOST 1048576: true; the input reads as it did. -/
def aidOrderUptoRow : OpenClaim := { program := "ytdplpkngacfacaa", sum := "8f5e26a77414f9d7dc7b2464df458e1bf6be8d8789b9a7765e68edba4fc6b615", func := "garderobe/garderobelaw03.AidOrder", spec := "aidOrder", inPlace := ["internal/bytealg.Compare"], apart := false, narrowed := true }
def AidOrderUptoSaid : Prop := aidOrderUptoRow.holds Try.pinned (OpenSpec.upto aidOrderSpec)

/-- 'garderobelaw03.AidCompares', WHERE WHAT IT READS IS OF BULK AT MOST 1048576: true; the input reads as it did. -/
def aidComparesUptoRow : OpenClaim := { program := "ytdplpkngacfacaa", sum := "8f5e26a77414f9d7dc7b2464df458e1bf6be8d8789b9a7765e68edba4fc6b615", func := "garderobe/garderobelaw03.AidCompares", spec := "aidCompares", inPlace := ["internal/bytealg.Compare"], apart := false, narrowed := true }
def AidComparesUptoSaid : Prop := aidComparesUptoRow.holds Try.pinned (OpenSpec.upto aidComparesSpec)

/-- 'garderobelaw03.AidPuts', WHERE WHAT IT READS IS OF BULK AT MOST 1048576: true; the input reads as it did. -/
def aidPutsUptoRow : OpenClaim := { program := "ytdplpkngacfacaa", sum := "8f5e26a77414f9d7dc7b2464df458e1bf6be8d8789b9a7765e68edba4fc6b615", func := "garderobe/garderobelaw03.AidPuts", spec := "aidPuts", apart := false, narrowed := true }
def AidPutsUptoSaid : Prop := aidPutsUptoRow.holds Try.pinned (OpenSpec.upto aidPutsSpec)

/-- 'garderobelaw03.AidBack', WHERE WHAT IT READS IS OF BULK AT MOST 1048576: true; the input reads as it did. -/
def aidBackUptoRow : OpenClaim := { program := "ytdplpkngacfacaa", sum := "8f5e26a77414f9d7dc7b2464df458e1bf6be8d8789b9a7765e68edba4fc6b615", func := "garderobe/garderobelaw03.AidBack", spec := "aidBack", apart := false, narrowed := true }
def AidBackUptoSaid : Prop := aidBackUptoRow.holds Try.pinned (OpenSpec.upto aidBackSpec)

/-- 'garderobelaw03.AidFresh', WHERE WHAT IT READS IS OF BULK AT MOST 1048576: true; the input reads as it did. -/
def aidFreshUptoRow : OpenClaim := { program := "ytdplpkngacfacaa", sum := "8f5e26a77414f9d7dc7b2464df458e1bf6be8d8789b9a7765e68edba4fc6b615", func := "garderobe/garderobelaw03.AidFresh", spec := "aidFresh", apart := false, narrowed := true }
def AidFreshUptoSaid : Prop := aidFreshUptoRow.holds Try.pinned (OpenSpec.upto aidFreshSpec)

end Rows
end Go.Proofs.Ytdplpkngacfacaa
