/-
  No cell of these rows narrows 'for every input' (looked for: loops, veiled, ifaces, maps, wideKeys, modest, calm, conditions, laid).
  DERIVED. THE GIVEN ROWS OF THIS SEAT. 5 by the template 'for every input the law returns true; each argument reads behind the call as it read before'; 0 by the template 'total and deterministic' (their statements: YtlkpgoddljjlbaaTotals.lean).
  GIVEN WITH THE SEED: the statements are not yours to turn. If you find one false, say at which input.
  Laid BY PROGRAM, IN A SANDBOX (cutbox-rows.mjs): the forced cells as the released guide's own fill.sh prints them over the translation f44a9f78587859fa… (all of the seat's roots in one cut). By AI agents, Wed Nov 11 2026. No macro, syntax, notation, axiom, sorry.
-/
import Derived.Test.YtlkpgoddljjlbaaChecked
import GoSem.Claim
import GoSem.ClaimJoined
import GoSem.ClaimMapViews
import Derived.JoinedTies
import Derived.KernelRfl
namespace Go.Proofs.Ytlkpgoddljjlbaa
/- THE CELL 'sum', in the pinned program and in every row, IS THE sha256 OF THE DUMP (.gsa) THAT YtlkpgoddljjlbaaProg.lean LOADS. Nothing in Lean hashes anything: it is a label: what it is worth is what the hold of that sum in a sandbox is worth. -/
noncomputable def Try.pinned : Pinned := { name := "ytlkpgoddljjlbaa", sum := "f44a9f78587859fa0b174cc7539a196555fb1c6eaef471f29406ec8b917422c9", checked := Try.checked }
namespace Rows
def none {H : Type} : Left H := { results := [], args := [] }

/-- 'garderobelaw04.TypesPuts': WHATEVER THE INPUT: true; the input reads as it did. -/
def typesPutsSpec : ChangeSpec := { name := "typesPuts", fn := fun _ => fun
  | [d1, d2] => { results := [.lit (.bool true)], args := [d1, d2] }
  | _ => none }
def typesPutsRow : OpenClaim := { program := "ytlkpgoddljjlbaa", sum := "f44a9f78587859fa0b174cc7539a196555fb1c6eaef471f29406ec8b917422c9", func := "garderobe/garderobelaw04.TypesPuts", spec := "typesPuts", apart := false }
def TypesPutsSaid : Prop := typesPutsRow.holds Try.pinned (OpenSpec.ofChange typesPutsSpec)

/-- ITS FALSE NEIGHBOUR: 'it returns false'. Refute it at one input. -/
def typesPutsWrong : ChangeSpec := { name := "typesPuts", fn := fun _ => fun
  | [d1, d2] => { results := [.lit (.bool false)], args := [d1, d2] }
  | _ => none }
def TypesPutsWrongFalsely : Prop := typesPutsRow.holds Try.pinned (OpenSpec.ofChange typesPutsWrong)

/-- 'garderobelaw04.TypesSame': WHATEVER THE INPUT: true; the input reads as it did. -/
def typesSameSpec : ChangeSpec := { name := "typesSame", fn := fun _ => fun
  | [d1, d2, d3] => { results := [.lit (.bool true)], args := [d1, d2, d3] }
  | _ => none }
def typesSameRow : OpenClaim := { program := "ytlkpgoddljjlbaa", sum := "f44a9f78587859fa0b174cc7539a196555fb1c6eaef471f29406ec8b917422c9", func := "garderobe/garderobelaw04.TypesSame", spec := "typesSame", apart := false }
def TypesSameSaid : Prop := typesSameRow.holds Try.pinned (OpenSpec.ofChange typesSameSpec)

/-- ITS FALSE NEIGHBOUR: 'it returns false'. Refute it at one input. -/
def typesSameWrong : ChangeSpec := { name := "typesSame", fn := fun _ => fun
  | [d1, d2, d3] => { results := [.lit (.bool false)], args := [d1, d2, d3] }
  | _ => none }
def TypesSameWrongFalsely : Prop := typesSameRow.holds Try.pinned (OpenSpec.ofChange typesSameWrong)

/-- 'garderobelaw04.TypesGets': WHATEVER THE INPUT: true; the input reads as it did. -/
def typesGetsSpec : ChangeSpec := { name := "typesGets", fn := fun _ => fun
  | [d1, d2] => { results := [.lit (.bool true)], args := [d1, d2] }
  | _ => none }
def typesGetsRow : OpenClaim := { program := "ytlkpgoddljjlbaa", sum := "f44a9f78587859fa0b174cc7539a196555fb1c6eaef471f29406ec8b917422c9", func := "garderobe/garderobelaw04.TypesGets", spec := "typesGets", apart := false }
def TypesGetsSaid : Prop := typesGetsRow.holds Try.pinned (OpenSpec.ofChange typesGetsSpec)

/-- ITS FALSE NEIGHBOUR: 'it returns false'. Refute it at one input. -/
def typesGetsWrong : ChangeSpec := { name := "typesGets", fn := fun _ => fun
  | [d1, d2] => { results := [.lit (.bool false)], args := [d1, d2] }
  | _ => none }
def TypesGetsWrongFalsely : Prop := typesGetsRow.holds Try.pinned (OpenSpec.ofChange typesGetsWrong)

/-- 'garderobelaw04.TypesFresh': WHATEVER THE INPUT: true; the input reads as it did. -/
def typesFreshSpec : ChangeSpec := { name := "typesFresh", fn := fun _ => fun
  | [d1, d2, d3] => { results := [.lit (.bool true)], args := [d1, d2, d3] }
  | _ => none }
def typesFreshRow : OpenClaim := { program := "ytlkpgoddljjlbaa", sum := "f44a9f78587859fa0b174cc7539a196555fb1c6eaef471f29406ec8b917422c9", func := "garderobe/garderobelaw04.TypesFresh", spec := "typesFresh", apart := false }
def TypesFreshSaid : Prop := typesFreshRow.holds Try.pinned (OpenSpec.ofChange typesFreshSpec)

/-- ITS FALSE NEIGHBOUR: 'it returns false'. Refute it at one input. -/
def typesFreshWrong : ChangeSpec := { name := "typesFresh", fn := fun _ => fun
  | [d1, d2, d3] => { results := [.lit (.bool false)], args := [d1, d2, d3] }
  | _ => none }
def TypesFreshWrongFalsely : Prop := typesFreshRow.holds Try.pinned (OpenSpec.ofChange typesFreshWrong)

/-- 'garderobelaw04.TypesBack': WHATEVER THE INPUT: true; the input reads as it did. -/
def typesBackSpec : ChangeSpec := { name := "typesBack", fn := fun _ => fun
  | [d1, d2, d3] => { results := [.lit (.bool true)], args := [d1, d2, d3] }
  | _ => none }
def typesBackRow : OpenClaim := { program := "ytlkpgoddljjlbaa", sum := "f44a9f78587859fa0b174cc7539a196555fb1c6eaef471f29406ec8b917422c9", func := "garderobe/garderobelaw04.TypesBack", spec := "typesBack", apart := false }
def TypesBackSaid : Prop := typesBackRow.holds Try.pinned (OpenSpec.ofChange typesBackSpec)

/-- ITS FALSE NEIGHBOUR: 'it returns false'. Refute it at one input. -/
def typesBackWrong : ChangeSpec := { name := "typesBack", fn := fun _ => fun
  | [d1, d2, d3] => { results := [.lit (.bool false)], args := [d1, d2, d3] }
  | _ => none }
def TypesBackWrongFalsely : Prop := typesBackRow.holds Try.pinned (OpenSpec.ofChange typesBackWrong)

/- THE SECOND FORM. 'bulk': how many values and letters a reading holds, each counted each time it is reached (what is shared counts as often as it is met; a slice's spare places count too). A statement '..UptoSaid' is the law's where the arguments, and the package variables that the reading takes, are together of bulk at most 1048576: NARROWER than '..Said'. Prove '..Said' where nothing that the law and all that it calls make is longer than what came in: it says more and counts as full. Else prove '..UptoSaid'. A law counts once. -/
mutual
def uptoBulk {H : Type} : DataW H → Nat
  | .lit (.string bytes) => bytes.length + 1
  | .lit _ => 1
  | .nil => 1
  | .ptr d => uptoBulk d + 1
  | .slice elems spare => uptoBulkAll elems + uptoBulkAll spare + 1
  | .agg parts => uptoBulkAll parts + 1
  | .iface _ d => uptoBulk d + 1
  | .map entries => uptoBulkEntries entries + 1
  | .held _ => 1
def uptoBulkAll {H : Type} : List (DataW H) → Nat
  | [] => 0
  | d :: r => uptoBulk d + uptoBulkAll r
def uptoBulkEntries {H : Type} : List (Lit × DataW H) → Nat
  | [] => 0
  | x :: r => uptoBulkEntry x + uptoBulkEntries r
def uptoBulkEntry {H : Type} : Lit × DataW H → Nat
  | (.string bytes, d) => bytes.length + uptoBulk d + 1
  | (_, d) => uptoBulk d + 1
 end
def uptoSmall : (H : Type) → List (DataW H) → Bool := fun _ ds => decide (uptoBulkAll ds ≤ 1048576)
def OpenSpec.upto (s : _root_.Go.ChangeSpec) : _root_.Go.OpenSpec := { _root_.Go.OpenSpec.ofChange s with cond := some uptoSmall }

/-- 'garderobelaw04.TypesPuts', WHERE WHAT IT READS IS OF BULK AT MOST 1048576: true; the input reads as it did. -/
def typesPutsUptoRow : OpenClaim := { program := "ytlkpgoddljjlbaa", sum := "f44a9f78587859fa0b174cc7539a196555fb1c6eaef471f29406ec8b917422c9", func := "garderobe/garderobelaw04.TypesPuts", spec := "typesPuts", apart := false, narrowed := true }
def TypesPutsUptoSaid : Prop := typesPutsUptoRow.holds Try.pinned (OpenSpec.upto typesPutsSpec)

/-- 'garderobelaw04.TypesSame', WHERE WHAT IT READS IS OF BULK AT MOST 1048576: true; the input reads as it did. -/
def typesSameUptoRow : OpenClaim := { program := "ytlkpgoddljjlbaa", sum := "f44a9f78587859fa0b174cc7539a196555fb1c6eaef471f29406ec8b917422c9", func := "garderobe/garderobelaw04.TypesSame", spec := "typesSame", apart := false, narrowed := true }
def TypesSameUptoSaid : Prop := typesSameUptoRow.holds Try.pinned (OpenSpec.upto typesSameSpec)

/-- 'garderobelaw04.TypesGets', WHERE WHAT IT READS IS OF BULK AT MOST 1048576: true; the input reads as it did. -/
def typesGetsUptoRow : OpenClaim := { program := "ytlkpgoddljjlbaa", sum := "f44a9f78587859fa0b174cc7539a196555fb1c6eaef471f29406ec8b917422c9", func := "garderobe/garderobelaw04.TypesGets", spec := "typesGets", apart := false, narrowed := true }
def TypesGetsUptoSaid : Prop := typesGetsUptoRow.holds Try.pinned (OpenSpec.upto typesGetsSpec)

/-- 'garderobelaw04.TypesFresh', WHERE WHAT IT READS IS OF BULK AT MOST 1048576: true; the input reads as it did. -/
def typesFreshUptoRow : OpenClaim := { program := "ytlkpgoddljjlbaa", sum := "f44a9f78587859fa0b174cc7539a196555fb1c6eaef471f29406ec8b917422c9", func := "garderobe/garderobelaw04.TypesFresh", spec := "typesFresh", apart := false, narrowed := true }
def TypesFreshUptoSaid : Prop := typesFreshUptoRow.holds Try.pinned (OpenSpec.upto typesFreshSpec)

/-- 'garderobelaw04.TypesBack', WHERE WHAT IT READS IS OF BULK AT MOST 1048576: true; the input reads as it did. -/
def typesBackUptoRow : OpenClaim := { program := "ytlkpgoddljjlbaa", sum := "f44a9f78587859fa0b174cc7539a196555fb1c6eaef471f29406ec8b917422c9", func := "garderobe/garderobelaw04.TypesBack", spec := "typesBack", apart := false, narrowed := true }
def TypesBackUptoSaid : Prop := typesBackUptoRow.holds Try.pinned (OpenSpec.upto typesBackSpec)

end Rows
end Go.Proofs.Ytlkpgoddljjlbaa
