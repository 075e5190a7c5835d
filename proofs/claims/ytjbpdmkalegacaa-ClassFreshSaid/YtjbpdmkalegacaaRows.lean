/-
  No cell of these rows narrows 'for every input' (looked for: loops, veiled, ifaces, maps, wideKeys, modest, calm, conditions, laid).
  DERIVED. THE GIVEN ROWS OF THIS SEAT. 4 by the template 'for every input the law returns true; each argument reads behind the call as it read before'; 0 by the template 'total and deterministic' (their statements: YtjbpdmkalegacaaTotals.lean).
  GIVEN WITH THE SEED: the statements are not yours to turn. If you find one false, say at which input.
  Laid BY PROGRAM, IN A SANDBOX (cutbox-rows.mjs): the forced cells as the released guide's own fill.sh prints them over the translation 1898b06970303904… (all of the seat's roots in one cut). By AI agents, Wed Nov 11 2026. No macro, syntax, notation, axiom, sorry.
-/
import Derived.Test.YtjbpdmkalegacaaChecked
import GoSem.Claim
import GoSem.ClaimJoined
import GoSem.ClaimMapViews
import Derived.JoinedTies
import Derived.KernelRfl
namespace Go.Proofs.Ytjbpdmkalegacaa
/- THE CELL 'sum', in the pinned program and in every row, IS THE sha256 OF THE DUMP (.gsa) THAT YtjbpdmkalegacaaProg.lean LOADS. Nothing in Lean hashes anything: it is a label: what it is worth is what the hold of that sum in a sandbox is worth. -/
noncomputable def Try.pinned : Pinned := { name := "ytjbpdmkalegacaa", sum := "1898b0697030390483ba21d6d9f48330205b0c453dc37fe25d5010fa11627536", checked := Try.checked }
namespace Rows
def none {H : Type} : Left H := { results := [], args := [] }

/-- 'garderobelaw08.ClassCuts': WHATEVER THE INPUT: true; the input reads as it did. -/
def classCutsSpec : ChangeSpec := { name := "classCuts", fn := fun _ => fun
  | [d1, d2, d3] => { results := [.lit (.bool true)], args := [d1, d2, d3] }
  | _ => none }
def classCutsRow : OpenClaim := { program := "ytjbpdmkalegacaa", sum := "1898b0697030390483ba21d6d9f48330205b0c453dc37fe25d5010fa11627536", func := "garderobe/garderobelaw08.ClassCuts", spec := "classCuts", unfollowed := true, recurses := true, apart := false }
def ClassCutsSaid : Prop := classCutsRow.holds Try.pinned (OpenSpec.ofChange classCutsSpec)

/-- ITS FALSE NEIGHBOUR: 'it returns false'. Refute it at one input. -/
def classCutsWrong : ChangeSpec := { name := "classCuts", fn := fun _ => fun
  | [d1, d2, d3] => { results := [.lit (.bool false)], args := [d1, d2, d3] }
  | _ => none }
def ClassCutsWrongFalsely : Prop := classCutsRow.holds Try.pinned (OpenSpec.ofChange classCutsWrong)

/-- 'garderobelaw08.ClassFresh': WHATEVER THE INPUT: true; the input reads as it did. -/
def classFreshSpec : ChangeSpec := { name := "classFresh", fn := fun _ => fun
  | [d] => { results := [.lit (.bool true)], args := [d] }
  | _ => none }
def classFreshRow : OpenClaim := { program := "ytjbpdmkalegacaa", sum := "1898b0697030390483ba21d6d9f48330205b0c453dc37fe25d5010fa11627536", func := "garderobe/garderobelaw08.ClassFresh", spec := "classFresh", unfollowed := true, recurses := true, apart := false }
def ClassFreshSaid : Prop := classFreshRow.holds Try.pinned (OpenSpec.ofChange classFreshSpec)

/-- ITS FALSE NEIGHBOUR: 'it returns false'. Refute it at one input. -/
def classFreshWrong : ChangeSpec := { name := "classFresh", fn := fun _ => fun
  | [d] => { results := [.lit (.bool false)], args := [d] }
  | _ => none }
def ClassFreshWrongFalsely : Prop := classFreshRow.holds Try.pinned (OpenSpec.ofChange classFreshWrong)

/-- 'garderobelaw08.ClassPuts': WHATEVER THE INPUT: true; the input reads as it did. -/
def classPutsSpec : ChangeSpec := { name := "classPuts", fn := fun _ => fun
  | [d] => { results := [.lit (.bool true)], args := [d] }
  | _ => none }
def classPutsRow : OpenClaim := { program := "ytjbpdmkalegacaa", sum := "1898b0697030390483ba21d6d9f48330205b0c453dc37fe25d5010fa11627536", func := "garderobe/garderobelaw08.ClassPuts", spec := "classPuts", unfollowed := true, recurses := true, apart := false }
def ClassPutsSaid : Prop := classPutsRow.holds Try.pinned (OpenSpec.ofChange classPutsSpec)

/-- ITS FALSE NEIGHBOUR: 'it returns false'. Refute it at one input. -/
def classPutsWrong : ChangeSpec := { name := "classPuts", fn := fun _ => fun
  | [d] => { results := [.lit (.bool false)], args := [d] }
  | _ => none }
def ClassPutsWrongFalsely : Prop := classPutsRow.holds Try.pinned (OpenSpec.ofChange classPutsWrong)

/-- 'garderobelaw08.ClassBack': WHATEVER THE INPUT: true; the input reads as it did. -/
def classBackSpec : ChangeSpec := { name := "classBack", fn := fun _ => fun
  | [d1, d2] => { results := [.lit (.bool true)], args := [d1, d2] }
  | _ => none }
def classBackRow : OpenClaim := { program := "ytjbpdmkalegacaa", sum := "1898b0697030390483ba21d6d9f48330205b0c453dc37fe25d5010fa11627536", func := "garderobe/garderobelaw08.ClassBack", spec := "classBack", unfollowed := true, recurses := true, apart := false }
def ClassBackSaid : Prop := classBackRow.holds Try.pinned (OpenSpec.ofChange classBackSpec)

/-- ITS FALSE NEIGHBOUR: 'it returns false'. Refute it at one input. -/
def classBackWrong : ChangeSpec := { name := "classBack", fn := fun _ => fun
  | [d1, d2] => { results := [.lit (.bool false)], args := [d1, d2] }
  | _ => none }
def ClassBackWrongFalsely : Prop := classBackRow.holds Try.pinned (OpenSpec.ofChange classBackWrong)

/- THE SECOND FORM. 'bulk': how many values and letters a reading holds, each counted each time it is reached (what is shared counts as often as it is met; a slice's spare places count too). A statement '..UptoSaid' is the law's where the arguments, and the package variables that the reading takes, are together of bulk at most 1048576: NARROWER than '..Said'. Prove '..Said' where nothing that the law and all that it calls make is longer than what came in: it says more and counts as full. Else prove '..UptoSaid'. A law counts once. -/
mutual
def uptoBulk {H : Type} : DataW H → Nat
  | .lit (.string bytes) => bytes.length + 1
  | .lit _ => 1
  | .nil => 1
  | .ptr d => uptoBulk d + 1
  | .slice elems spare => uptoBulkAll elems + uptoBulkAll spare + 1
  | .agg parts => uptoBulkAll parts + 1
  | .iface _ d => uptoBulk d + 1
  | .map entries => uptoBulkEntries entries + 1
  | .held _ => 1
def uptoBulkAll {H : Type} : List (DataW H) → Nat
  | [] => 0
  | d :: r => uptoBulk d + uptoBulkAll r
def uptoBulkEntries {H : Type} : List (Lit × DataW H) → Nat
  | [] => 0
  | x :: r => uptoBulkEntry x + uptoBulkEntries r
def uptoBulkEntry {H : Type} : Lit × DataW H → Nat
  | (.string bytes, d) => bytes.length + uptoBulk d + 1
  | (_, d) => uptoBulk d + 1
 end
def uptoSmall : (H : Type) → List (DataW H) → Bool := fun _ ds => decide (uptoBulkAll ds ≤ 1048576)
def OpenSpec.upto (s : _root_.Go.ChangeSpec) : _root_.Go.OpenSpec := { _root_.Go.OpenSpec.ofChange s with cond := some uptoSmall }

/-- 'garderobelaw08.ClassCuts', WHERE WHAT IT READS IS OF BULK AT MOST 1048576: true; the input reads as it did. -/
def classCutsUptoRow : OpenClaim := { program := "ytjbpdmkalegacaa", sum := "1898b0697030390483ba21d6d9f48330205b0c453dc37fe25d5010fa11627536", func := "garderobe/garderobelaw08.ClassCuts", spec := "classCuts", unfollowed := true, recurses := true, apart := false, narrowed := true }
def ClassCutsUptoSaid : Prop := classCutsUptoRow.holds Try.pinned (OpenSpec.upto classCutsSpec)

/-- 'garderobelaw08.ClassFresh', WHERE WHAT IT READS IS OF BULK AT MOST 1048576: true; the input reads as it did. -/
def classFreshUptoRow : OpenClaim := { program := "ytjbpdmkalegacaa", sum := "1898b0697030390483ba21d6d9f48330205b0c453dc37fe25d5010fa11627536", func := "garderobe/garderobelaw08.ClassFresh", spec := "classFresh", unfollowed := true, recurses := true, apart := false, narrowed := true }
def ClassFreshUptoSaid : Prop := classFreshUptoRow.holds Try.pinned (OpenSpec.upto classFreshSpec)

/-- 'garderobelaw08.ClassPuts', WHERE WHAT IT READS IS OF BULK AT MOST 1048576: true; the input reads as it did. -/
def classPutsUptoRow : OpenClaim := { program := "ytjbpdmkalegacaa", sum := "1898b0697030390483ba21d6d9f48330205b0c453dc37fe25d5010fa11627536", func := "garderobe/garderobelaw08.ClassPuts", spec := "classPuts", unfollowed := true, recurses := true, apart := false, narrowed := true }
def ClassPutsUptoSaid : Prop := classPutsUptoRow.holds Try.pinned (OpenSpec.upto classPutsSpec)

/-- 'garderobelaw08.ClassBack', WHERE WHAT IT READS IS OF BULK AT MOST 1048576: true; the input reads as it did. -/
def classBackUptoRow : OpenClaim := { program := "ytjbpdmkalegacaa", sum := "1898b0697030390483ba21d6d9f48330205b0c453dc37fe25d5010fa11627536", func := "garderobe/garderobelaw08.ClassBack", spec := "classBack", unfollowed := true, recurses := true, apart := false, narrowed := true }
def ClassBackUptoSaid : Prop := classBackUptoRow.holds Try.pinned (OpenSpec.upto classBackSpec)

end Rows
end Go.Proofs.Ytjbpdmkalegacaa
