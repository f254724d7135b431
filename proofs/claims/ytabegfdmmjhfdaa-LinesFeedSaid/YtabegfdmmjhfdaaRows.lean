/-
  No cell of these rows narrows 'for every input' (looked for: loops, veiled, ifaces, maps, wideKeys, modest, calm, conditions, laid).
  DERIVED. THE GIVEN ROWS OF THIS SEAT. 3 by the template 'for every input the law returns true; each argument reads behind the call as it read before'; 0 by the template 'total and deterministic' (their statements: YtabegfdmmjhfdaaTotals.lean).
  GIVEN WITH THE SEED: the statements are not yours to turn. If you find one false, say at which input.
  Laid BY PROGRAM, IN A SANDBOX (cutbox-rows.mjs): the forced cells as the released guide's own fill.sh prints them over the translation 54d7dbf1da7a2e6e… (all of the seat's roots in one cut). By AI agents, Wed Nov 11 2026. No macro, syntax, notation, axiom, sorry.
-/
import Derived.Test.YtabegfdmmjhfdaaChecked
import GoSem.Claim
import GoSem.ClaimJoined
import GoSem.ClaimMapViews
import Derived.JoinedTies
import Derived.KernelRfl
namespace Go.Proofs.Ytabegfdmmjhfdaa
/- THE CELL 'sum', in the pinned program and in every row, IS THE sha256 OF THE DUMP (.gsa) THAT YtabegfdmmjhfdaaProg.lean LOADS. Nothing in Lean hashes anything: it is a label: what it is worth is what the hold of that sum in a sandbox is worth. -/
noncomputable def Try.pinned : Pinned := { name := "ytabegfdmmjhfdaa", sum := "54d7dbf1da7a2e6e5319c1cf59d00ee3eff22eaa6f8d29403fff8d2fb68ee71d", checked := Try.checked }
namespace Rows
def none {H : Type} : Left H := { results := [], args := [] }

/-- 'abutmentlaw16.LinesFeed': WHATEVER THE INPUT: true; the input reads as it did. -/
def linesFeedSpec : ChangeSpec := { name := "linesFeed", fn := fun _ => fun
  | [d1, d2] => { results := [.lit (.bool true)], args := [d1, d2] }
  | _ => none }
def linesFeedRow : OpenClaim := { program := "ytabegfdmmjhfdaa", sum := "54d7dbf1da7a2e6e5319c1cf59d00ee3eff22eaa6f8d29403fff8d2fb68ee71d", func := "abutment/abutmentlaw16.LinesFeed", spec := "linesFeed", unfollowed := true, recurses := true, apart := false }
def LinesFeedSaid : Prop := linesFeedRow.holds Try.pinned (OpenSpec.ofChange linesFeedSpec)

/-- ITS FALSE NEIGHBOUR: 'it returns false'. Refute it at one input. -/
def linesFeedWrong : ChangeSpec := { name := "linesFeed", fn := fun _ => fun
  | [d1, d2] => { results := [.lit (.bool false)], args := [d1, d2] }
  | _ => none }
def LinesFeedWrongFalsely : Prop := linesFeedRow.holds Try.pinned (OpenSpec.ofChange linesFeedWrong)

/-- 'abutmentlaw16.LinesCuts': WHATEVER THE INPUT: true; the input reads as it did. -/
def linesCutsSpec : ChangeSpec := { name := "linesCuts", fn := fun _ => fun
  | [d1, d2] => { results := [.lit (.bool true)], args := [d1, d2] }
  | _ => none }
def linesCutsRow : OpenClaim := { program := "ytabegfdmmjhfdaa", sum := "54d7dbf1da7a2e6e5319c1cf59d00ee3eff22eaa6f8d29403fff8d2fb68ee71d", func := "abutment/abutmentlaw16.LinesCuts", spec := "linesCuts", unfollowed := true, recurses := true, apart := false }
def LinesCutsSaid : Prop := linesCutsRow.holds Try.pinned (OpenSpec.ofChange linesCutsSpec)

/-- ITS FALSE NEIGHBOUR: 'it returns false'. Refute it at one input. -/
def linesCutsWrong : ChangeSpec := { name := "linesCuts", fn := fun _ => fun
  | [d1, d2] => { results := [.lit (.bool false)], args := [d1, d2] }
  | _ => none }
def LinesCutsWrongFalsely : Prop := linesCutsRow.holds Try.pinned (OpenSpec.ofChange linesCutsWrong)

/-- 'abutmentlaw16.LinesNone': WHATEVER THE INPUT: true; the input reads as it did. -/
def linesNoneSpec : ChangeSpec := { name := "linesNone", fn := fun _ => fun
  | [d] => { results := [.lit (.bool true)], args := [d] }
  | _ => none }
def linesNoneRow : OpenClaim := { program := "ytabegfdmmjhfdaa", sum := "54d7dbf1da7a2e6e5319c1cf59d00ee3eff22eaa6f8d29403fff8d2fb68ee71d", func := "abutment/abutmentlaw16.LinesNone", spec := "linesNone", unfollowed := true, recurses := true, apart := false }
def LinesNoneSaid : Prop := linesNoneRow.holds Try.pinned (OpenSpec.ofChange linesNoneSpec)

/-- ITS FALSE NEIGHBOUR: 'it returns false'. Refute it at one input. -/
def linesNoneWrong : ChangeSpec := { name := "linesNone", fn := fun _ => fun
  | [d] => { results := [.lit (.bool false)], args := [d] }
  | _ => none }
def LinesNoneWrongFalsely : Prop := linesNoneRow.holds Try.pinned (OpenSpec.ofChange linesNoneWrong)

/- THE SECOND FORM. 'bulk': how many values and letters a reading holds, each counted each time it is reached (what is shared counts as often as it is met; a slice's spare places count too). A statement '..UptoSaid' is the law's where the arguments, and the package variables that the reading takes, are together of bulk at most 1048576: NARROWER than '..Said'. Prove '..Said' where nothing that the law and all that it calls make is longer than what came in: it says more and counts as full. Else prove '..UptoSaid'. A law counts once. -/
mutual
def uptoBulk {H : Type} : DataW H → Nat
  | .lit (.string bytes) => bytes.length + 1
  | .lit _ => 1
  | .nil => 1
  | .ptr d => uptoBulk d + 1
  | .slice elems spare => uptoBulkAll elems + uptoBulkAll spare + 1
  | .agg parts => uptoBulkAll parts + 1
  | .iface _ d => uptoBulk d + 1
  | .map entries => uptoBulkEntries entries + 1
  | .held _ => 1
def uptoBulkAll {H : Type} : List (DataW H) → Nat
  | [] => 0
  | d :: r => uptoBulk d + uptoBulkAll r
def uptoBulkEntries {H : Type} : List (Lit × DataW H) → Nat
  | [] => 0
  | x :: r => uptoBulkEntry x + uptoBulkEntries r
def uptoBulkEntry {H : Type} : Lit × DataW H → Nat
  | (.string bytes, d) => bytes.length + uptoBulk d + 1
  | (_, d) => uptoBulk d + 1
 end
def uptoSmall : (H : Type) → List (DataW H) → Bool := fun _ ds => decide (uptoBulkAll ds ≤ 1048576)
def OpenSpec.upto (s : _root_.Go.ChangeSpec) : _root_.Go.OpenSpec := { _root_.Go.OpenSpec.ofChange s with cond := some uptoSmall }

/-- 'abutmentlaw16.LinesFeed', WHERE WHAT IT READS IS OF BULK AT MOST 1048576: true; the input reads as it did. -/
def linesFeedUptoRow : OpenClaim := { program := "ytabegfdmmjhfdaa", sum := "54d7dbf1da7a2e6e5319c1cf59d00ee3eff22eaa6f8d29403fff8d2fb68ee71d", func := "abutment/abutmentlaw16.LinesFeed", spec := "linesFeed", unfollowed := true, recurses := true, apart := false, narrowed := true }
def LinesFeedUptoSaid : Prop := linesFeedUptoRow.holds Try.pinned (OpenSpec.upto linesFeedSpec)

/-- 'abutmentlaw16.LinesCuts', WHERE WHAT IT READS IS OF BULK AT MOST 1048576: true; the input reads as it did. -/
def linesCutsUptoRow : OpenClaim := { program := "ytabegfdmmjhfdaa", sum := "54d7dbf1da7a2e6e5319c1cf59d00ee3eff22eaa6f8d29403fff8d2fb68ee71d", func := "abutment/abutmentlaw16.LinesCuts", spec := "linesCuts", unfollowed := true, recurses := true, apart := false, narrowed := true }
def LinesCutsUptoSaid : Prop := linesCutsUptoRow.holds Try.pinned (OpenSpec.upto linesCutsSpec)

/-- 'abutmentlaw16.LinesNone', WHERE WHAT IT READS IS OF BULK AT MOST 1048576: true; the input reads as it did. -/
def linesNoneUptoRow : OpenClaim := { program := "ytabegfdmmjhfdaa", sum := "54d7dbf1da7a2e6e5319c1cf59d00ee3eff22eaa6f8d29403fff8d2fb68ee71d", func := "abutment/abutmentlaw16.LinesNone", spec := "linesNone", unfollowed := true, recurses := true, apart := false, narrowed := true }
def LinesNoneUptoSaid : Prop := linesNoneUptoRow.holds Try.pinned (OpenSpec.upto linesNoneSpec)

end Rows
end Go.Proofs.Ytabegfdmmjhfdaa
