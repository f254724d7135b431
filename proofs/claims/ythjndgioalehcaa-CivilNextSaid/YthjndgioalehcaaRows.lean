/-
  No cell of these rows narrows 'for every input' (looked for: loops, veiled, ifaces, maps, wideKeys, modest, calm, conditions, laid).
  DERIVED. THE GIVEN ROWS OF THIS SEAT. 4 by the template 'for every input the law returns true; each argument reads behind the call as it read before'; 0 by the template 'total and deterministic' (their statements: YthjndgioalehcaaTotals.lean).
  GIVEN WITH THE SEED: the statements are not yours to turn. If you find one false, say at which input.
  Laid BY PROGRAM, IN A SANDBOX (cutbox-rows.mjs): the forced cells as the released guide's own fill.sh prints them over the translation 68bc2def5afd5147… (all of the seat's roots in one cut). By AI agents, Wed Nov 11 2026. No macro, syntax, notation, axiom, sorry.
-/
import Derived.Test.YthjndgioalehcaaChecked
import GoSem.Claim
import GoSem.ClaimJoined
import GoSem.ClaimMapViews
import Derived.JoinedTies
import Derived.KernelRfl
namespace Go.Proofs.Ythjndgioalehcaa
/- THE CELL 'sum', in the pinned program and in every row, IS THE sha256 OF THE DUMP (.gsa) THAT YthjndgioalehcaaProg.lean LOADS. Nothing in Lean hashes anything: it is a label: what it is worth is what the hold of that sum in a sandbox is worth. -/
noncomputable def Try.pinned : Pinned := { name := "ythjndgioalehcaa", sum := "68bc2def5afd5147bb15a21c24591b931e03644bded8249959254c2e35882cec", checked := Try.checked }
namespace Rows
def none {H : Type} : Left H := { results := [], args := [] }

/-- 'abutmentlaw05.CivilDays': WHATEVER THE INPUT: true; the input reads as it did. -/
def civilDaysSpec : ChangeSpec := { name := "civilDays", fn := fun _ => fun
  | [d1, d2, d3] => { results := [.lit (.bool true)], args := [d1, d2, d3] }
  | _ => none }
def civilDaysRow : OpenClaim := { program := "ythjndgioalehcaa", sum := "68bc2def5afd5147bb15a21c24591b931e03644bded8249959254c2e35882cec", func := "abutment/abutmentlaw05.CivilDays", spec := "civilDays", apart := false }
def CivilDaysSaid : Prop := civilDaysRow.holds Try.pinned (OpenSpec.ofChange civilDaysSpec)

/-- ITS FALSE NEIGHBOUR: 'it returns false'. Refute it at one input. -/
def civilDaysWrong : ChangeSpec := { name := "civilDays", fn := fun _ => fun
  | [d1, d2, d3] => { results := [.lit (.bool false)], args := [d1, d2, d3] }
  | _ => none }
def CivilDaysWrongFalsely : Prop := civilDaysRow.holds Try.pinned (OpenSpec.ofChange civilDaysWrong)

/-- 'abutmentlaw05.CivilOf': WHATEVER THE INPUT: true; the input reads as it did. -/
def civilOfSpec : ChangeSpec := { name := "civilOf", fn := fun _ => fun
  | [d] => { results := [.lit (.bool true)], args := [d] }
  | _ => none }
def civilOfRow : OpenClaim := { program := "ythjndgioalehcaa", sum := "68bc2def5afd5147bb15a21c24591b931e03644bded8249959254c2e35882cec", func := "abutment/abutmentlaw05.CivilOf", spec := "civilOf", apart := false }
def CivilOfSaid : Prop := civilOfRow.holds Try.pinned (OpenSpec.ofChange civilOfSpec)

/-- ITS FALSE NEIGHBOUR: 'it returns false'. Refute it at one input. -/
def civilOfWrong : ChangeSpec := { name := "civilOf", fn := fun _ => fun
  | [d] => { results := [.lit (.bool false)], args := [d] }
  | _ => none }
def CivilOfWrongFalsely : Prop := civilOfRow.holds Try.pinned (OpenSpec.ofChange civilOfWrong)

/-- 'abutmentlaw05.CivilSeconds': WHATEVER THE INPUT: true; the input reads as it did. -/
def civilSecondsSpec : ChangeSpec := { name := "civilSeconds", fn := fun _ => fun
  | [d1, d2] => { results := [.lit (.bool true)], args := [d1, d2] }
  | _ => none }
def civilSecondsRow : OpenClaim := { program := "ythjndgioalehcaa", sum := "68bc2def5afd5147bb15a21c24591b931e03644bded8249959254c2e35882cec", func := "abutment/abutmentlaw05.CivilSeconds", spec := "civilSeconds", unfollowed := true, recurses := true, apart := false }
def CivilSecondsSaid : Prop := civilSecondsRow.holds Try.pinned (OpenSpec.ofChange civilSecondsSpec)

/-- ITS FALSE NEIGHBOUR: 'it returns false'. Refute it at one input. -/
def civilSecondsWrong : ChangeSpec := { name := "civilSeconds", fn := fun _ => fun
  | [d1, d2] => { results := [.lit (.bool false)], args := [d1, d2] }
  | _ => none }
def CivilSecondsWrongFalsely : Prop := civilSecondsRow.holds Try.pinned (OpenSpec.ofChange civilSecondsWrong)

/-- 'abutmentlaw05.CivilNext': WHATEVER THE INPUT: true; the input reads as it did. -/
def civilNextSpec : ChangeSpec := { name := "civilNext", fn := fun _ => fun
  | [d1, d2] => { results := [.lit (.bool true)], args := [d1, d2] }
  | _ => none }
def civilNextRow : OpenClaim := { program := "ythjndgioalehcaa", sum := "68bc2def5afd5147bb15a21c24591b931e03644bded8249959254c2e35882cec", func := "abutment/abutmentlaw05.CivilNext", spec := "civilNext", unfollowed := true, recurses := true, apart := false }
def CivilNextSaid : Prop := civilNextRow.holds Try.pinned (OpenSpec.ofChange civilNextSpec)

/-- ITS FALSE NEIGHBOUR: 'it returns false'. Refute it at one input. -/
def civilNextWrong : ChangeSpec := { name := "civilNext", fn := fun _ => fun
  | [d1, d2] => { results := [.lit (.bool false)], args := [d1, d2] }
  | _ => none }
def CivilNextWrongFalsely : Prop := civilNextRow.holds Try.pinned (OpenSpec.ofChange civilNextWrong)

/- THE SECOND FORM. 'bulk': how many values and letters a reading holds, each counted each time it is reached (what is shared counts as often as it is met; a slice's spare places count too). A statement '..UptoSaid' is the law's where the arguments, and the package variables that the reading takes, are together of bulk at most 1048576: NARROWER than '..Said'. Prove '..Said' where nothing that the law and all that it calls make is longer than what came in: it says more and counts as full. Else prove '..UptoSaid'. A law counts once. -/
mutual
def uptoBulk {H : Type} : DataW H → Nat
  | .lit (.string bytes) => bytes.length + 1
  | .lit _ => 1
  | .nil => 1
  | .ptr d => uptoBulk d + 1
  | .slice elems spare => uptoBulkAll elems + uptoBulkAll spare + 1
  | .agg parts => uptoBulkAll parts + 1
  | .iface _ d => uptoBulk d + 1
  | .map entries => uptoBulkEntries entries + 1
  | .held _ => 1
def uptoBulkAll {H : Type} : List (DataW H) → Nat
  | [] => 0
  | d :: r => uptoBulk d + uptoBulkAll r
def uptoBulkEntries {H : Type} : List (Lit × DataW H) → Nat
  | [] => 0
  | x :: r => uptoBulkEntry x + uptoBulkEntries r
def uptoBulkEntry {H : Type} : Lit × DataW H → Nat
  | (.string bytes, d) => bytes.length + uptoBulk d + 1
  | (_, d) => uptoBulk d + 1
 end
def uptoSmall : (H : Type) → List (DataW H) → Bool := fun _ ds => decide (uptoBulkAll ds ≤ 1048576)
def OpenSpec.upto (s : _root_.Go.ChangeSpec) : _root_.Go.OpenSpec := { _root_.Go.OpenSpec.ofChange s with cond := some uptoSmall }

/-- 'abutmentlaw05.CivilDays', WHERE WHAT IT READS IS OF BULK AT MOST 1048576: true; the input reads as it did. -/
def civilDaysUptoRow : OpenClaim := { program := "ythjndgioalehcaa", sum := "68bc2def5afd5147bb15a21c24591b931e03644bded8249959254c2e35882cec", func := "abutment/abutmentlaw05.CivilDays", spec := "civilDays", apart := false, narrowed := true }
def CivilDaysUptoSaid : Prop := civilDaysUptoRow.holds Try.pinned (OpenSpec.upto civilDaysSpec)

/-- 'abutmentlaw05.CivilOf', WHERE WHAT IT READS IS OF BULK AT MOST 1048576: true; the input reads as it did. -/
def civilOfUptoRow : OpenClaim := { program := "ythjndgioalehcaa", sum := "68bc2def5afd5147bb15a21c24591b931e03644bded8249959254c2e35882cec", func := "abutment/abutmentlaw05.CivilOf", spec := "civilOf", apart := false, narrowed := true }
def CivilOfUptoSaid : Prop := civilOfUptoRow.holds Try.pinned (OpenSpec.upto civilOfSpec)

/-- 'abutmentlaw05.CivilSeconds', WHERE WHAT IT READS IS OF BULK AT MOST 1048576: true; the input reads as it did. -/
def civilSecondsUptoRow : OpenClaim := { program := "ythjndgioalehcaa", sum := "68bc2def5afd5147bb15a21c24591b931e03644bded8249959254c2e35882cec", func := "abutment/abutmentlaw05.CivilSeconds", spec := "civilSeconds", unfollowed := true, recurses := true, apart := false, narrowed := true }
def CivilSecondsUptoSaid : Prop := civilSecondsUptoRow.holds Try.pinned (OpenSpec.upto civilSecondsSpec)

/-- 'abutmentlaw05.CivilNext', WHERE WHAT IT READS IS OF BULK AT MOST 1048576: true; the input reads as it did. -/
def civilNextUptoRow : OpenClaim := { program := "ythjndgioalehcaa", sum := "68bc2def5afd5147bb15a21c24591b931e03644bded8249959254c2e35882cec", func := "abutment/abutmentlaw05.CivilNext", spec := "civilNext", unfollowed := true, recurses := true, apart := false, narrowed := true }
def CivilNextUptoSaid : Prop := civilNextUptoRow.holds Try.pinned (OpenSpec.upto civilNextSpec)

end Rows
end Go.Proofs.Ythjndgioalehcaa
