/-
  No cell of these rows narrows 'for every input' (looked for: loops, veiled, ifaces, maps, wideKeys, modest, calm, conditions, laid).
  DERIVED. THE GIVEN ROWS OF THIS SEAT. 3 by the template 'for every input the law returns true; each argument reads behind the call as it read before'; 0 by the template 'total and deterministic' (their statements: YtfloeenjkjimmaaTotals.lean).
  GIVEN WITH THE SEED: the statements are not yours to turn. If you find one false, say at which input.
  Laid BY PROGRAM, IN A SANDBOX (cutbox-rows.mjs): the forced cells as the released guide's own fill.sh prints them over the translation edb9a064f35c6aa9… (all of the seat's roots in one cut). By AI agents, Wed Nov 11 2026. No macro, syntax, notation, axiom, sorry.
-/
import Derived.Test.YtfloeenjkjimmaaChecked
import GoSem.Claim
import GoSem.ClaimJoined
import GoSem.ClaimMapViews
import Derived.JoinedTies
import Derived.KernelRfl
namespace Go.Proofs.Ytfloeenjkjimmaa
/- THE CELL 'sum', in the pinned program and in every row, IS THE sha256 OF THE DUMP (.gsa) THAT YtfloeenjkjimmaaProg.lean LOADS. Nothing in Lean hashes anything: it is a label: what it is worth is what the hold of that sum in a sandbox is worth. -/
noncomputable def Try.pinned : Pinned := { name := "ytfloeenjkjimmaa", sum := "edb9a064f35c6aa91343dc69404c787c8d49a505b96e73f13f2e2aed036a6159", checked := Try.checked }
namespace Rows
def none {H : Type} : Left H := { results := [], args := [] }

/-- 'garderobelaw28.ApduAnswers': WHATEVER THE INPUT: true; the input reads as it did. -/
def apduAnswersSpec : ChangeSpec := { name := "apduAnswers", fn := fun _ => fun
  | [d1, d2, d3, d4] => { results := [.lit (.bool true)], args := [d1, d2, d3, d4] }
  | _ => none }
def apduAnswersRow : OpenClaim := { program := "ytfloeenjkjimmaa", sum := "edb9a064f35c6aa91343dc69404c787c8d49a505b96e73f13f2e2aed036a6159", func := "garderobe/garderobelaw28.ApduAnswers", spec := "apduAnswers", apart := false }
def ApduAnswersSaid : Prop := apduAnswersRow.holds Try.pinned (OpenSpec.ofChange apduAnswersSpec)

/-- ITS FALSE NEIGHBOUR: 'it returns false'. Refute it at one input. -/
def apduAnswersWrong : ChangeSpec := { name := "apduAnswers", fn := fun _ => fun
  | [d1, d2, d3, d4] => { results := [.lit (.bool false)], args := [d1, d2, d3, d4] }
  | _ => none }
def ApduAnswersWrongFalsely : Prop := apduAnswersRow.holds Try.pinned (OpenSpec.ofChange apduAnswersWrong)

/-- 'garderobelaw28.ApduBack': WHATEVER THE INPUT: true; the input reads as it did. -/
def apduBackSpec : ChangeSpec := { name := "apduBack", fn := fun _ => fun
  | [d1, d2, d3, d4] => { results := [.lit (.bool true)], args := [d1, d2, d3, d4] }
  | _ => none }
def apduBackRow : OpenClaim := { program := "ytfloeenjkjimmaa", sum := "edb9a064f35c6aa91343dc69404c787c8d49a505b96e73f13f2e2aed036a6159", func := "garderobe/garderobelaw28.ApduBack", spec := "apduBack", apart := false }
def ApduBackSaid : Prop := apduBackRow.holds Try.pinned (OpenSpec.ofChange apduBackSpec)

/-- ITS FALSE NEIGHBOUR: 'it returns false'. Refute it at one input. -/
def apduBackWrong : ChangeSpec := { name := "apduBack", fn := fun _ => fun
  | [d1, d2, d3, d4] => { results := [.lit (.bool false)], args := [d1, d2, d3, d4] }
  | _ => none }
def ApduBackWrongFalsely : Prop := apduBackRow.holds Try.pinned (OpenSpec.ofChange apduBackWrong)

/-- 'garderobelaw28.ApduFresh': WHATEVER THE INPUT: true; the input reads as it did. -/
def apduFreshSpec : ChangeSpec := { name := "apduFresh", fn := fun _ => fun
  | [d1, d2] => { results := [.lit (.bool true)], args := [d1, d2] }
  | _ => none }
def apduFreshRow : OpenClaim := { program := "ytfloeenjkjimmaa", sum := "edb9a064f35c6aa91343dc69404c787c8d49a505b96e73f13f2e2aed036a6159", func := "garderobe/garderobelaw28.ApduFresh", spec := "apduFresh", apart := false }
def ApduFreshSaid : Prop := apduFreshRow.holds Try.pinned (OpenSpec.ofChange apduFreshSpec)

/-- ITS FALSE NEIGHBOUR: 'it returns false'. Refute it at one input. -/
def apduFreshWrong : ChangeSpec := { name := "apduFresh", fn := fun _ => fun
  | [d1, d2] => { results := [.lit (.bool false)], args := [d1, d2] }
  | _ => none }
def ApduFreshWrongFalsely : Prop := apduFreshRow.holds Try.pinned (OpenSpec.ofChange apduFreshWrong)

/- THE SECOND FORM. 'bulk': how many values and letters a reading holds, each counted each time it is reached (what is shared counts as often as it is met; a slice's spare places count too). A statement '..UptoSaid' is the law's where the arguments, and the package variables that the reading takes, are together of bulk at most 1048576: NARROWER than '..Said'. Prove '..Said' where nothing that the law and all that it calls make is longer than what came in: it says more and counts as full. Else prove '..UptoSaid'. A law counts once. -/
mutual
def uptoBulk {H : Type} : DataW H → Nat
  | .lit (.string bytes) => bytes.length + 1
  | .lit _ => 1
  | .nil => 1
  | .ptr d => uptoBulk d + 1
  | .slice elems spare => uptoBulkAll elems + uptoBulkAll spare + 1
  | .agg parts => uptoBulkAll parts + 1
  | .iface _ d => uptoBulk d + 1
  | .map entries => uptoBulkEntries entries + 1
  | .held _ => 1
def uptoBulkAll {H : Type} : List (DataW H) → Nat
  | [] => 0
  | d :: r => uptoBulk d + uptoBulkAll r
def uptoBulkEntries {H : Type} : List (Lit × DataW H) → Nat
  | [] => 0
  | x :: r => uptoBulkEntry x + uptoBulkEntries r
def uptoBulkEntry {H : Type} : Lit × DataW H → Nat
  | (.string bytes, d) => bytes.length + uptoBulk d + 1
  | (_, d) => uptoBulk d + 1
 end
def uptoSmall : (H : Type) → List (DataW H) → Bool := fun _ ds => decide (uptoBulkAll ds ≤ 1048576)
def OpenSpec.upto (s : _root_.Go.ChangeSpec) : _root_.Go.OpenSpec := { _root_.Go.OpenSpec.ofChange s with cond := some uptoSmall }

/-- 'garderobelaw28.ApduAnswers', WHERE WHAT IT READS IS OF BULK AT MOST 1048576: true; the input reads as it did. -/
def apduAnswersUptoRow : OpenClaim := { program := "ytfloeenjkjimmaa", sum := "edb9a064f35c6aa91343dc69404c787c8d49a505b96e73f13f2e2aed036a6159", func := "garderobe/garderobelaw28.ApduAnswers", spec := "apduAnswers", apart := false, narrowed := true }
def ApduAnswersUptoSaid : Prop := apduAnswersUptoRow.holds Try.pinned (OpenSpec.upto apduAnswersSpec)

/-- 'garderobelaw28.ApduBack', WHERE WHAT IT READS IS OF BULK AT MOST 1048576: true; the input reads as it did. -/
def apduBackUptoRow : OpenClaim := { program := "ytfloeenjkjimmaa", sum := "edb9a064f35c6aa91343dc69404c787c8d49a505b96e73f13f2e2aed036a6159", func := "garderobe/garderobelaw28.ApduBack", spec := "apduBack", apart := false, narrowed := true }
def ApduBackUptoSaid : Prop := apduBackUptoRow.holds Try.pinned (OpenSpec.upto apduBackSpec)

/-- 'garderobelaw28.ApduFresh', WHERE WHAT IT READS IS OF BULK AT MOST 1048576: true; the input reads as it did. -/
def apduFreshUptoRow : OpenClaim := { program := "ytfloeenjkjimmaa", sum := "edb9a064f35c6aa91343dc69404c787c8d49a505b96e73f13f2e2aed036a6159", func := "garderobe/garderobelaw28.ApduFresh", spec := "apduFresh", apart := false, narrowed := true }
def ApduFreshUptoSaid : Prop := apduFreshUptoRow.holds Try.pinned (OpenSpec.upto apduFreshSpec)

end Rows
end Go.Proofs.Ytfloeenjkjimmaa
