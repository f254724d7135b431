/-
  No cell of these rows narrows 'for every input' (looked for: loops, veiled, ifaces, maps, wideKeys, modest, calm, conditions, laid).
  DERIVED. THE GIVEN ROWS OF THIS SEAT. 14 by the template 'for every input the law returns true; each argument reads behind the call as it read before'; 0 by the template 'total and deterministic' (their statements: YtbelgmfhaddhmaaTotals.lean).
  GIVEN WITH THE SEED: the statements are not yours to turn. If you find one false, say at which input.
  Laid BY PROGRAM, IN A SANDBOX (cutbox-rows.mjs): the forced cells as the released guide's own fill.sh prints them over the translation 8401c6d1d5ec5825… (all of the seat's roots in one cut). By AI agents, Wed Nov 11 2026. No macro, syntax, notation, axiom, sorry.
-/
import Derived.Test.YtbelgmfhaddhmaaChecked
import GoSem.Claim
import GoSem.ClaimJoined
import GoSem.ClaimMapViews
import Derived.JoinedTies
import Derived.KernelRfl
namespace Go.Proofs.Ytbelgmfhaddhmaa
/- THE CELL 'sum', in the pinned program and in every row, IS THE sha256 OF THE DUMP (.gsa) THAT YtbelgmfhaddhmaaProg.lean LOADS. Nothing in Lean hashes anything: it is a label: what it is worth is what the hold of that sum in a sandbox is worth. -/
noncomputable def Try.pinned : Pinned := { name := "ytbelgmfhaddhmaa", sum := "8401c6d1d5ec5825d0b27b9deab8f6c14b16777e03a086c84f56d30161e53f50", checked := Try.checked }
namespace Rows
def none {H : Type} : Left H := { results := [], args := [] }

/-- 'abutmentlaw14.ChunkSizes': WHATEVER THE INPUT: true; the input reads as it did. -/
def chunkSizesSpec : ChangeSpec := { name := "chunkSizes", fn := fun _ => fun
  | [d1, d2] => { results := [.lit (.bool true)], args := [d1, d2] }
  | _ => none }
def chunkSizesRow : OpenClaim := { program := "ytbelgmfhaddhmaa", sum := "8401c6d1d5ec5825d0b27b9deab8f6c14b16777e03a086c84f56d30161e53f50", func := "abutment/abutmentlaw14.ChunkSizes", spec := "chunkSizes", inPlace := ["internal/bytealg.IndexByteString"], unfollowed := true, recurses := true, apart := false }
def ChunkSizesSaid : Prop := chunkSizesRow.holds Try.pinned (OpenSpec.ofChange chunkSizesSpec)

/-- ITS FALSE NEIGHBOUR: 'it returns false'. Refute it at one input. -/
def chunkSizesWrong : ChangeSpec := { name := "chunkSizes", fn := fun _ => fun
  | [d1, d2] => { results := [.lit (.bool false)], args := [d1, d2] }
  | _ => none }
def ChunkSizesWrongFalsely : Prop := chunkSizesRow.holds Try.pinned (OpenSpec.ofChange chunkSizesWrong)

/-- 'abutmentlaw01.OctetFolds': WHATEVER THE INPUT: true; the input reads as it did. -/
def octetFoldsSpec : ChangeSpec := { name := "octetFolds", fn := fun _ => fun
  | [d1, d2] => { results := [.lit (.bool true)], args := [d1, d2] }
  | _ => none }
def octetFoldsRow : OpenClaim := { program := "ytbelgmfhaddhmaa", sum := "8401c6d1d5ec5825d0b27b9deab8f6c14b16777e03a086c84f56d30161e53f50", func := "abutment/abutmentlaw01.OctetFolds", spec := "octetFolds", unfollowed := true, recurses := true, apart := false }
def OctetFoldsSaid : Prop := octetFoldsRow.holds Try.pinned (OpenSpec.ofChange octetFoldsSpec)

/-- ITS FALSE NEIGHBOUR: 'it returns false'. Refute it at one input. -/
def octetFoldsWrong : ChangeSpec := { name := "octetFolds", fn := fun _ => fun
  | [d1, d2] => { results := [.lit (.bool false)], args := [d1, d2] }
  | _ => none }
def OctetFoldsWrongFalsely : Prop := octetFoldsRow.holds Try.pinned (OpenSpec.ofChange octetFoldsWrong)

/-- 'abutmentlaw14.ChunkBack': WHATEVER THE INPUT: true; the input reads as it did. -/
def chunkBackSpec : ChangeSpec := { name := "chunkBack", fn := fun _ => fun
  | [d1, d2] => { results := [.lit (.bool true)], args := [d1, d2] }
  | _ => none }
def chunkBackRow : OpenClaim := { program := "ytbelgmfhaddhmaa", sum := "8401c6d1d5ec5825d0b27b9deab8f6c14b16777e03a086c84f56d30161e53f50", func := "abutment/abutmentlaw14.ChunkBack", spec := "chunkBack", inPlace := ["internal/bytealg.IndexByteString"], unfollowed := true, recurses := true, apart := false }
def ChunkBackSaid : Prop := chunkBackRow.holds Try.pinned (OpenSpec.ofChange chunkBackSpec)

/-- ITS FALSE NEIGHBOUR: 'it returns false'. Refute it at one input. -/
def chunkBackWrong : ChangeSpec := { name := "chunkBack", fn := fun _ => fun
  | [d1, d2] => { results := [.lit (.bool false)], args := [d1, d2] }
  | _ => none }
def ChunkBackWrongFalsely : Prop := chunkBackRow.holds Try.pinned (OpenSpec.ofChange chunkBackWrong)

/-- 'abutmentlaw01.OctetKeeps': WHATEVER THE INPUT: true; the input reads as it did. -/
def octetKeepsSpec : ChangeSpec := { name := "octetKeeps", fn := fun _ => fun
  | [d1, d2, d3] => { results := [.lit (.bool true)], args := [d1, d2, d3] }
  | _ => none }
def octetKeepsRow : OpenClaim := { program := "ytbelgmfhaddhmaa", sum := "8401c6d1d5ec5825d0b27b9deab8f6c14b16777e03a086c84f56d30161e53f50", func := "abutment/abutmentlaw01.OctetKeeps", spec := "octetKeeps", unfollowed := true, recurses := true, apart := false }
def OctetKeepsSaid : Prop := octetKeepsRow.holds Try.pinned (OpenSpec.ofChange octetKeepsSpec)

/-- ITS FALSE NEIGHBOUR: 'it returns false'. Refute it at one input. -/
def octetKeepsWrong : ChangeSpec := { name := "octetKeeps", fn := fun _ => fun
  | [d1, d2, d3] => { results := [.lit (.bool false)], args := [d1, d2, d3] }
  | _ => none }
def OctetKeepsWrongFalsely : Prop := octetKeepsRow.holds Try.pinned (OpenSpec.ofChange octetKeepsWrong)

/-- 'abutmentlaw01.OctetClasses': WHATEVER THE INPUT: true; the input reads as it did. -/
def octetClassesSpec : ChangeSpec := { name := "octetClasses", fn := fun _ => fun
  | [d1, d2] => { results := [.lit (.bool true)], args := [d1, d2] }
  | _ => none }
def octetClassesRow : OpenClaim := { program := "ytbelgmfhaddhmaa", sum := "8401c6d1d5ec5825d0b27b9deab8f6c14b16777e03a086c84f56d30161e53f50", func := "abutment/abutmentlaw01.OctetClasses", spec := "octetClasses", unfollowed := true, recurses := true, apart := false }
def OctetClassesSaid : Prop := octetClassesRow.holds Try.pinned (OpenSpec.ofChange octetClassesSpec)

/-- ITS FALSE NEIGHBOUR: 'it returns false'. Refute it at one input. -/
def octetClassesWrong : ChangeSpec := { name := "octetClasses", fn := fun _ => fun
  | [d1, d2] => { results := [.lit (.bool false)], args := [d1, d2] }
  | _ => none }
def OctetClassesWrongFalsely : Prop := octetClassesRow.holds Try.pinned (OpenSpec.ofChange octetClassesWrong)

/-- 'abutmentlaw26.TrailerKeeps': WHATEVER THE INPUT: true; the input reads as it did. -/
def trailerKeepsSpec : ChangeSpec := { name := "trailerKeeps", fn := fun _ => fun
  | [d1, d2, d3] => { results := [.lit (.bool true)], args := [d1, d2, d3] }
  | _ => none }
def trailerKeepsRow : OpenClaim := { program := "ytbelgmfhaddhmaa", sum := "8401c6d1d5ec5825d0b27b9deab8f6c14b16777e03a086c84f56d30161e53f50", func := "abutment/abutmentlaw26.TrailerKeeps", spec := "trailerKeeps", unfollowed := true, recurses := true, apart := false }
def TrailerKeepsSaid : Prop := trailerKeepsRow.holds Try.pinned (OpenSpec.ofChange trailerKeepsSpec)

/-- ITS FALSE NEIGHBOUR: 'it returns false'. Refute it at one input. -/
def trailerKeepsWrong : ChangeSpec := { name := "trailerKeeps", fn := fun _ => fun
  | [d1, d2, d3] => { results := [.lit (.bool false)], args := [d1, d2, d3] }
  | _ => none }
def TrailerKeepsWrongFalsely : Prop := trailerKeepsRow.holds Try.pinned (OpenSpec.ofChange trailerKeepsWrong)

/-- 'abutmentlaw26.TrailerMerges': WHATEVER THE INPUT: true; the input reads as it did. -/
def trailerMergesSpec : ChangeSpec := { name := "trailerMerges", fn := fun _ => fun
  | [d1, d2] => { results := [.lit (.bool true)], args := [d1, d2] }
  | _ => none }
def trailerMergesRow : OpenClaim := { program := "ytbelgmfhaddhmaa", sum := "8401c6d1d5ec5825d0b27b9deab8f6c14b16777e03a086c84f56d30161e53f50", func := "abutment/abutmentlaw26.TrailerMerges", spec := "trailerMerges", unfollowed := true, recurses := true, apart := false }
def TrailerMergesSaid : Prop := trailerMergesRow.holds Try.pinned (OpenSpec.ofChange trailerMergesSpec)

/-- ITS FALSE NEIGHBOUR: 'it returns false'. Refute it at one input. -/
def trailerMergesWrong : ChangeSpec := { name := "trailerMerges", fn := fun _ => fun
  | [d1, d2] => { results := [.lit (.bool false)], args := [d1, d2] }
  | _ => none }
def TrailerMergesWrongFalsely : Prop := trailerMergesRow.holds Try.pinned (OpenSpec.ofChange trailerMergesWrong)

/-- 'abutmentlaw04.CursorBack': WHATEVER THE INPUT: true; the input reads as it did. -/
def cursorBackSpec : ChangeSpec := { name := "cursorBack", fn := fun _ => fun
  | [d1, d2] => { results := [.lit (.bool true)], args := [d1, d2] }
  | _ => none }
def cursorBackRow : OpenClaim := { program := "ytbelgmfhaddhmaa", sum := "8401c6d1d5ec5825d0b27b9deab8f6c14b16777e03a086c84f56d30161e53f50", func := "abutment/abutmentlaw04.CursorBack", spec := "cursorBack", unfollowed := true, recurses := true, apart := false }
def CursorBackSaid : Prop := cursorBackRow.holds Try.pinned (OpenSpec.ofChange cursorBackSpec)

/-- ITS FALSE NEIGHBOUR: 'it returns false'. Refute it at one input. -/
def cursorBackWrong : ChangeSpec := { name := "cursorBack", fn := fun _ => fun
  | [d1, d2] => { results := [.lit (.bool false)], args := [d1, d2] }
  | _ => none }
def CursorBackWrongFalsely : Prop := cursorBackRow.holds Try.pinned (OpenSpec.ofChange cursorBackWrong)

/-- 'abutmentlaw04.CursorPlays': WHATEVER THE INPUT: true; the input reads as it did. -/
def cursorPlaysSpec : ChangeSpec := { name := "cursorPlays", fn := fun _ => fun
  | [d1, d2] => { results := [.lit (.bool true)], args := [d1, d2] }
  | _ => none }
def cursorPlaysRow : OpenClaim := { program := "ytbelgmfhaddhmaa", sum := "8401c6d1d5ec5825d0b27b9deab8f6c14b16777e03a086c84f56d30161e53f50", func := "abutment/abutmentlaw04.CursorPlays", spec := "cursorPlays", unfollowed := true, recurses := true, apart := false }
def CursorPlaysSaid : Prop := cursorPlaysRow.holds Try.pinned (OpenSpec.ofChange cursorPlaysSpec)

/-- ITS FALSE NEIGHBOUR: 'it returns false'. Refute it at one input. -/
def cursorPlaysWrong : ChangeSpec := { name := "cursorPlays", fn := fun _ => fun
  | [d1, d2] => { results := [.lit (.bool false)], args := [d1, d2] }
  | _ => none }
def CursorPlaysWrongFalsely : Prop := cursorPlaysRow.holds Try.pinned (OpenSpec.ofChange cursorPlaysWrong)

/-- 'abutmentlaw04.CursorQuotes': WHATEVER THE INPUT: true; the input reads as it did. -/
def cursorQuotesSpec : ChangeSpec := { name := "cursorQuotes", fn := fun _ => fun
  | [d] => { results := [.lit (.bool true)], args := [d] }
  | _ => none }
def cursorQuotesRow : OpenClaim := { program := "ytbelgmfhaddhmaa", sum := "8401c6d1d5ec5825d0b27b9deab8f6c14b16777e03a086c84f56d30161e53f50", func := "abutment/abutmentlaw04.CursorQuotes", spec := "cursorQuotes", unfollowed := true, recurses := true, apart := false }
def CursorQuotesSaid : Prop := cursorQuotesRow.holds Try.pinned (OpenSpec.ofChange cursorQuotesSpec)

/-- ITS FALSE NEIGHBOUR: 'it returns false'. Refute it at one input. -/
def cursorQuotesWrong : ChangeSpec := { name := "cursorQuotes", fn := fun _ => fun
  | [d] => { results := [.lit (.bool false)], args := [d] }
  | _ => none }
def CursorQuotesWrongFalsely : Prop := cursorQuotesRow.holds Try.pinned (OpenSpec.ofChange cursorQuotesWrong)

/-- 'abutmentlaw08.ParamsParse': WHATEVER THE INPUT: true; the input reads as it did. -/
def paramsParseSpec : ChangeSpec := { name := "paramsParse", fn := fun _ => fun
  | [d] => { results := [.lit (.bool true)], args := [d] }
  | _ => none }
def paramsParseRow : OpenClaim := { program := "ytbelgmfhaddhmaa", sum := "8401c6d1d5ec5825d0b27b9deab8f6c14b16777e03a086c84f56d30161e53f50", func := "abutment/abutmentlaw08.ParamsParse", spec := "paramsParse", unfollowed := true, recurses := true, apart := false }
def ParamsParseSaid : Prop := paramsParseRow.holds Try.pinned (OpenSpec.ofChange paramsParseSpec)

/-- ITS FALSE NEIGHBOUR: 'it returns false'. Refute it at one input. -/
def paramsParseWrong : ChangeSpec := { name := "paramsParse", fn := fun _ => fun
  | [d] => { results := [.lit (.bool false)], args := [d] }
  | _ => none }
def ParamsParseWrongFalsely : Prop := paramsParseRow.holds Try.pinned (OpenSpec.ofChange paramsParseWrong)

/-- 'abutmentlaw08.ParamsPrint': WHATEVER THE INPUT: true; the input reads as it did. -/
def paramsPrintSpec : ChangeSpec := { name := "paramsPrint", fn := fun _ => fun
  | [d1, d2] => { results := [.lit (.bool true)], args := [d1, d2] }
  | _ => none }
def paramsPrintRow : OpenClaim := { program := "ytbelgmfhaddhmaa", sum := "8401c6d1d5ec5825d0b27b9deab8f6c14b16777e03a086c84f56d30161e53f50", func := "abutment/abutmentlaw08.ParamsPrint", spec := "paramsPrint", unfollowed := true, recurses := true, apart := false }
def ParamsPrintSaid : Prop := paramsPrintRow.holds Try.pinned (OpenSpec.ofChange paramsPrintSpec)

/-- ITS FALSE NEIGHBOUR: 'it returns false'. Refute it at one input. -/
def paramsPrintWrong : ChangeSpec := { name := "paramsPrint", fn := fun _ => fun
  | [d1, d2] => { results := [.lit (.bool false)], args := [d1, d2] }
  | _ => none }
def ParamsPrintWrongFalsely : Prop := paramsPrintRow.holds Try.pinned (OpenSpec.ofChange paramsPrintWrong)

/-- 'abutmentlaw08.ParamsBack': WHATEVER THE INPUT: true; the input reads as it did. -/
def paramsBackSpec : ChangeSpec := { name := "paramsBack", fn := fun _ => fun
  | [d1, d2, d3] => { results := [.lit (.bool true)], args := [d1, d2, d3] }
  | _ => none }
def paramsBackRow : OpenClaim := { program := "ytbelgmfhaddhmaa", sum := "8401c6d1d5ec5825d0b27b9deab8f6c14b16777e03a086c84f56d30161e53f50", func := "abutment/abutmentlaw08.ParamsBack", spec := "paramsBack", unfollowed := true, recurses := true, apart := false }
def ParamsBackSaid : Prop := paramsBackRow.holds Try.pinned (OpenSpec.ofChange paramsBackSpec)

/-- ITS FALSE NEIGHBOUR: 'it returns false'. Refute it at one input. -/
def paramsBackWrong : ChangeSpec := { name := "paramsBack", fn := fun _ => fun
  | [d1, d2, d3] => { results := [.lit (.bool false)], args := [d1, d2, d3] }
  | _ => none }
def ParamsBackWrongFalsely : Prop := paramsBackRow.holds Try.pinned (OpenSpec.ofChange paramsBackWrong)

/-- 'abutmentlaw14.ChunkParses': WHATEVER THE INPUT: true; the input reads as it did. -/
def chunkParsesSpec : ChangeSpec := { name := "chunkParses", fn := fun _ => fun
  | [d] => { results := [.lit (.bool true)], args := [d] }
  | _ => none }
def chunkParsesRow : OpenClaim := { program := "ytbelgmfhaddhmaa", sum := "8401c6d1d5ec5825d0b27b9deab8f6c14b16777e03a086c84f56d30161e53f50", func := "abutment/abutmentlaw14.ChunkParses", spec := "chunkParses", inPlace := ["internal/bytealg.IndexByteString"], unfollowed := true, recurses := true, apart := false }
def ChunkParsesSaid : Prop := chunkParsesRow.holds Try.pinned (OpenSpec.ofChange chunkParsesSpec)

/-- ITS FALSE NEIGHBOUR: 'it returns false'. Refute it at one input. -/
def chunkParsesWrong : ChangeSpec := { name := "chunkParses", fn := fun _ => fun
  | [d] => { results := [.lit (.bool false)], args := [d] }
  | _ => none }
def ChunkParsesWrongFalsely : Prop := chunkParsesRow.holds Try.pinned (OpenSpec.ofChange chunkParsesWrong)

/- THE SECOND FORM. 'bulk': how many values and letters a reading holds, each counted each time it is reached (what is shared counts as often as it is met; a slice's spare places count too). A statement '..UptoSaid' is the law's where the arguments, and the package variables that the reading takes, are together of bulk at most 1048576: NARROWER than '..Said'. Prove '..Said' where nothing that the law and all that it calls make is longer than what came in: it says more and counts as full. Else prove '..UptoSaid'. A law counts once. -/
mutual
def uptoBulk {H : Type} : DataW H → Nat
  | .lit (.string bytes) => bytes.length + 1
  | .lit _ => 1
  | .nil => 1
  | .ptr d => uptoBulk d + 1
  | .slice elems spare => uptoBulkAll elems + uptoBulkAll spare + 1
  | .agg parts => uptoBulkAll parts + 1
  | .iface _ d => uptoBulk d + 1
  | .map entries => uptoBulkEntries entries + 1
  | .held _ => 1
def uptoBulkAll {H : Type} : List (DataW H) → Nat
  | [] => 0
  | d :: r => uptoBulk d + uptoBulkAll r
def uptoBulkEntries {H : Type} : List (Lit × DataW H) → Nat
  | [] => 0
  | x :: r => uptoBulkEntry x + uptoBulkEntries r
def uptoBulkEntry {H : Type} : Lit × DataW H → Nat
  | (.string bytes, d) => bytes.length + uptoBulk d + 1
  | (_, d) => uptoBulk d + 1
 end
def uptoSmall : (H : Type) → List (DataW H) → Bool := fun _ ds => decide (uptoBulkAll ds ≤ 1048576)
def OpenSpec.upto (s : _root_.Go.ChangeSpec) : _root_.Go.OpenSpec := { _root_.Go.OpenSpec.ofChange s with cond := some uptoSmall }

/-- 'abutmentlaw14.ChunkSizes', WHERE WHAT IT READS IS OF BULK AT MOST 1048576: true; the input reads as it did. -/
def chunkSizesUptoRow : OpenClaim := { program := "ytbelgmfhaddhmaa", sum := "8401c6d1d5ec5825d0b27b9deab8f6c14b16777e03a086c84f56d30161e53f50", func := "abutment/abutmentlaw14.ChunkSizes", spec := "chunkSizes", inPlace := ["internal/bytealg.IndexByteString"], unfollowed := true, recurses := true, apart := false, narrowed := true }
def ChunkSizesUptoSaid : Prop := chunkSizesUptoRow.holds Try.pinned (OpenSpec.upto chunkSizesSpec)

/-- 'abutmentlaw01.OctetFolds', WHERE WHAT IT READS IS OF BULK AT MOST 1048576: true; the input reads as it did. -/
def octetFoldsUptoRow : OpenClaim := { program := "ytbelgmfhaddhmaa", sum := "8401c6d1d5ec5825d0b27b9deab8f6c14b16777e03a086c84f56d30161e53f50", func := "abutment/abutmentlaw01.OctetFolds", spec := "octetFolds", unfollowed := true, recurses := true, apart := false, narrowed := true }
def OctetFoldsUptoSaid : Prop := octetFoldsUptoRow.holds Try.pinned (OpenSpec.upto octetFoldsSpec)

/-- 'abutmentlaw14.ChunkBack', WHERE WHAT IT READS IS OF BULK AT MOST 1048576: true; the input reads as it did. -/
def chunkBackUptoRow : OpenClaim := { program := "ytbelgmfhaddhmaa", sum := "8401c6d1d5ec5825d0b27b9deab8f6c14b16777e03a086c84f56d30161e53f50", func := "abutment/abutmentlaw14.ChunkBack", spec := "chunkBack", inPlace := ["internal/bytealg.IndexByteString"], unfollowed := true, recurses := true, apart := false, narrowed := true }
def ChunkBackUptoSaid : Prop := chunkBackUptoRow.holds Try.pinned (OpenSpec.upto chunkBackSpec)

/-- 'abutmentlaw01.OctetKeeps', WHERE WHAT IT READS IS OF BULK AT MOST 1048576: true; the input reads as it did. -/
def octetKeepsUptoRow : OpenClaim := { program := "ytbelgmfhaddhmaa", sum := "8401c6d1d5ec5825d0b27b9deab8f6c14b16777e03a086c84f56d30161e53f50", func := "abutment/abutmentlaw01.OctetKeeps", spec := "octetKeeps", unfollowed := true, recurses := true, apart := false, narrowed := true }
def OctetKeepsUptoSaid : Prop := octetKeepsUptoRow.holds Try.pinned (OpenSpec.upto octetKeepsSpec)

/-- 'abutmentlaw01.OctetClasses', WHERE WHAT IT READS IS OF BULK AT MOST 1048576: true; the input reads as it did. -/
def octetClassesUptoRow : OpenClaim := { program := "ytbelgmfhaddhmaa", sum := "8401c6d1d5ec5825d0b27b9deab8f6c14b16777e03a086c84f56d30161e53f50", func := "abutment/abutmentlaw01.OctetClasses", spec := "octetClasses", unfollowed := true, recurses := true, apart := false, narrowed := true }
def OctetClassesUptoSaid : Prop := octetClassesUptoRow.holds Try.pinned (OpenSpec.upto octetClassesSpec)

/-- 'abutmentlaw26.TrailerKeeps', WHERE WHAT IT READS IS OF BULK AT MOST 1048576: true; the input reads as it did. -/
def trailerKeepsUptoRow : OpenClaim := { program := "ytbelgmfhaddhmaa", sum := "8401c6d1d5ec5825d0b27b9deab8f6c14b16777e03a086c84f56d30161e53f50", func := "abutment/abutmentlaw26.TrailerKeeps", spec := "trailerKeeps", unfollowed := true, recurses := true, apart := false, narrowed := true }
def TrailerKeepsUptoSaid : Prop := trailerKeepsUptoRow.holds Try.pinned (OpenSpec.upto trailerKeepsSpec)

/-- 'abutmentlaw26.TrailerMerges', WHERE WHAT IT READS IS OF BULK AT MOST 1048576: true; the input reads as it did. -/
def trailerMergesUptoRow : OpenClaim := { program := "ytbelgmfhaddhmaa", sum := "8401c6d1d5ec5825d0b27b9deab8f6c14b16777e03a086c84f56d30161e53f50", func := "abutment/abutmentlaw26.TrailerMerges", spec := "trailerMerges", unfollowed := true, recurses := true, apart := false, narrowed := true }
def TrailerMergesUptoSaid : Prop := trailerMergesUptoRow.holds Try.pinned (OpenSpec.upto trailerMergesSpec)

/-- 'abutmentlaw04.CursorBack', WHERE WHAT IT READS IS OF BULK AT MOST 1048576: true; the input reads as it did. -/
def cursorBackUptoRow : OpenClaim := { program := "ytbelgmfhaddhmaa", sum := "8401c6d1d5ec5825d0b27b9deab8f6c14b16777e03a086c84f56d30161e53f50", func := "abutment/abutmentlaw04.CursorBack", spec := "cursorBack", unfollowed := true, recurses := true, apart := false, narrowed := true }
def CursorBackUptoSaid : Prop := cursorBackUptoRow.holds Try.pinned (OpenSpec.upto cursorBackSpec)

/-- 'abutmentlaw04.CursorPlays', WHERE WHAT IT READS IS OF BULK AT MOST 1048576: true; the input reads as it did. -/
def cursorPlaysUptoRow : OpenClaim := { program := "ytbelgmfhaddhmaa", sum := "8401c6d1d5ec5825d0b27b9deab8f6c14b16777e03a086c84f56d30161e53f50", func := "abutment/abutmentlaw04.CursorPlays", spec := "cursorPlays", unfollowed := true, recurses := true, apart := false, narrowed := true }
def CursorPlaysUptoSaid : Prop := cursorPlaysUptoRow.holds Try.pinned (OpenSpec.upto cursorPlaysSpec)

/-- 'abutmentlaw04.CursorQuotes', WHERE WHAT IT READS IS OF BULK AT MOST 1048576: true; the input reads as it did. -/
def cursorQuotesUptoRow : OpenClaim := { program := "ytbelgmfhaddhmaa", sum := "8401c6d1d5ec5825d0b27b9deab8f6c14b16777e03a086c84f56d30161e53f50", func := "abutment/abutmentlaw04.CursorQuotes", spec := "cursorQuotes", unfollowed := true, recurses := true, apart := false, narrowed := true }
def CursorQuotesUptoSaid : Prop := cursorQuotesUptoRow.holds Try.pinned (OpenSpec.upto cursorQuotesSpec)

/-- 'abutmentlaw08.ParamsParse', WHERE WHAT IT READS IS OF BULK AT MOST 1048576: true; the input reads as it did. -/
def paramsParseUptoRow : OpenClaim := { program := "ytbelgmfhaddhmaa", sum := "8401c6d1d5ec5825d0b27b9deab8f6c14b16777e03a086c84f56d30161e53f50", func := "abutment/abutmentlaw08.ParamsParse", spec := "paramsParse", unfollowed := true, recurses := true, apart := false, narrowed := true }
def ParamsParseUptoSaid : Prop := paramsParseUptoRow.holds Try.pinned (OpenSpec.upto paramsParseSpec)

/-- 'abutmentlaw08.ParamsPrint', WHERE WHAT IT READS IS OF BULK AT MOST 1048576: true; the input reads as it did. -/
def paramsPrintUptoRow : OpenClaim := { program := "ytbelgmfhaddhmaa", sum := "8401c6d1d5ec5825d0b27b9deab8f6c14b16777e03a086c84f56d30161e53f50", func := "abutment/abutmentlaw08.ParamsPrint", spec := "paramsPrint", unfollowed := true, recurses := true, apart := false, narrowed := true }
def ParamsPrintUptoSaid : Prop := paramsPrintUptoRow.holds Try.pinned (OpenSpec.upto paramsPrintSpec)

/-- 'abutmentlaw08.ParamsBack', WHERE WHAT IT READS IS OF BULK AT MOST 1048576: true; the input reads as it did. -/
def paramsBackUptoRow : OpenClaim := { program := "ytbelgmfhaddhmaa", sum := "8401c6d1d5ec5825d0b27b9deab8f6c14b16777e03a086c84f56d30161e53f50", func := "abutment/abutmentlaw08.ParamsBack", spec := "paramsBack", unfollowed := true, recurses := true, apart := false, narrowed := true }
def ParamsBackUptoSaid : Prop := paramsBackUptoRow.holds Try.pinned (OpenSpec.upto paramsBackSpec)

/-- 'abutmentlaw14.ChunkParses', WHERE WHAT IT READS IS OF BULK AT MOST 1048576: true; the input reads as it did. -/
def chunkParsesUptoRow : OpenClaim := { program := "ytbelgmfhaddhmaa", sum := "8401c6d1d5ec5825d0b27b9deab8f6c14b16777e03a086c84f56d30161e53f50", func := "abutment/abutmentlaw14.ChunkParses", spec := "chunkParses", inPlace := ["internal/bytealg.IndexByteString"], unfollowed := true, recurses := true, apart := false, narrowed := true }
def ChunkParsesUptoSaid : Prop := chunkParsesUptoRow.holds Try.pinned (OpenSpec.upto chunkParsesSpec)

end Rows
end Go.Proofs.Ytbelgmfhaddhmaa
