/-
  No cell of these rows narrows 'for every input' (looked for: loops, veiled, ifaces, maps, wideKeys, modest, calm, conditions, laid).
  DERIVED. THE GIVEN ROWS OF THIS SEAT. 8 by the template 'for every input the law returns true; each argument reads behind the call as it read before'; 0 by the template 'total and deterministic' (their statements: YtiekjbejgmdkkaaTotals.lean).
  GIVEN WITH THE SEED: the statements are not yours to turn. If you find one false, say at which input.
  Laid BY PROGRAM, IN A SANDBOX (cutbox-rows.mjs): the forced cells as the released guide's own fill.sh prints them over the translation 7fd5d97644b0aa1e… (all of the seat's roots in one cut). By AI agents, Wed Nov 11 2026. No macro, syntax, notation, axiom, sorry.
-/
import Derived.Test.YtiekjbejgmdkkaaChecked
import GoSem.Claim
import GoSem.ClaimJoined
import GoSem.ClaimMapViews
import Derived.JoinedTies
import Derived.KernelRfl
namespace Go.Proofs.Ytiekjbejgmdkkaa
/- THE CELL 'sum', in the pinned program and in every row, IS THE sha256 OF THE DUMP (.gsa) THAT YtiekjbejgmdkkaaProg.lean LOADS. Nothing in Lean hashes anything: it is a label: what it is worth is what the hold of that sum in a sandbox is worth. -/
noncomputable def Try.pinned : Pinned := { name := "ytiekjbejgmdkkaa", sum := "7fd5d97644b0aa1e1e94476992fcb057d3972fdd8db730c1698e6950b3c3573a", checked := Try.checked }
namespace Rows
def none {H : Type} : Left H := { results := [], args := [] }

/-- 'messuagelaw01.NumPages': WHATEVER THE INPUT: true; the input reads as it did. -/
def numPagesSpec : ChangeSpec := { name := "numPages", fn := fun _ => fun
  | [d] => { results := [.lit (.bool true)], args := [d] }
  | _ => none }
def numPagesRow : OpenClaim := { program := "ytiekjbejgmdkkaa", sum := "7fd5d97644b0aa1e1e94476992fcb057d3972fdd8db730c1698e6950b3c3573a", func := "messuage/messuagelaw01.NumPages", spec := "numPages", apart := false }
def NumPagesSaid : Prop := numPagesRow.holds Try.pinned (OpenSpec.ofChange numPagesSpec)

/-- ITS FALSE NEIGHBOUR: 'it returns false'. Refute it at one input. -/
def numPagesWrong : ChangeSpec := { name := "numPages", fn := fun _ => fun
  | [d] => { results := [.lit (.bool false)], args := [d] }
  | _ => none }
def NumPagesWrongFalsely : Prop := numPagesRow.holds Try.pinned (OpenSpec.ofChange numPagesWrong)

/-- 'messuagelaw01.NumSums': WHATEVER THE INPUT: true; the input reads as it did. -/
def numSumsSpec : ChangeSpec := { name := "numSums", fn := fun _ => fun
  | [d1, d2] => { results := [.lit (.bool true)], args := [d1, d2] }
  | _ => none }
def numSumsRow : OpenClaim := { program := "ytiekjbejgmdkkaa", sum := "7fd5d97644b0aa1e1e94476992fcb057d3972fdd8db730c1698e6950b3c3573a", func := "messuage/messuagelaw01.NumSums", spec := "numSums", apart := false }
def NumSumsSaid : Prop := numSumsRow.holds Try.pinned (OpenSpec.ofChange numSumsSpec)

/-- ITS FALSE NEIGHBOUR: 'it returns false'. Refute it at one input. -/
def numSumsWrong : ChangeSpec := { name := "numSums", fn := fun _ => fun
  | [d1, d2] => { results := [.lit (.bool false)], args := [d1, d2] }
  | _ => none }
def NumSumsWrongFalsely : Prop := numSumsRow.holds Try.pinned (OpenSpec.ofChange numSumsWrong)

/-- 'messuagelaw01.NumRounds': WHATEVER THE INPUT: true; the input reads as it did. -/
def numRoundsSpec : ChangeSpec := { name := "numRounds", fn := fun _ => fun
  | [d1, d2] => { results := [.lit (.bool true)], args := [d1, d2] }
  | _ => none }
def numRoundsRow : OpenClaim := { program := "ytiekjbejgmdkkaa", sum := "7fd5d97644b0aa1e1e94476992fcb057d3972fdd8db730c1698e6950b3c3573a", func := "messuage/messuagelaw01.NumRounds", spec := "numRounds", apart := false }
def NumRoundsSaid : Prop := numRoundsRow.holds Try.pinned (OpenSpec.ofChange numRoundsSpec)

/-- ITS FALSE NEIGHBOUR: 'it returns false'. Refute it at one input. -/
def numRoundsWrong : ChangeSpec := { name := "numRounds", fn := fun _ => fun
  | [d1, d2] => { results := [.lit (.bool false)], args := [d1, d2] }
  | _ => none }
def NumRoundsWrongFalsely : Prop := numRoundsRow.holds Try.pinned (OpenSpec.ofChange numRoundsWrong)

/-- 'messuagelaw01.NumTwice': WHATEVER THE INPUT: true; the input reads as it did. -/
def numTwiceSpec : ChangeSpec := { name := "numTwice", fn := fun _ => fun
  | [d1, d2, d3] => { results := [.lit (.bool true)], args := [d1, d2, d3] }
  | _ => none }
def numTwiceRow : OpenClaim := { program := "ytiekjbejgmdkkaa", sum := "7fd5d97644b0aa1e1e94476992fcb057d3972fdd8db730c1698e6950b3c3573a", func := "messuage/messuagelaw01.NumTwice", spec := "numTwice", apart := false }
def NumTwiceSaid : Prop := numTwiceRow.holds Try.pinned (OpenSpec.ofChange numTwiceSpec)

/-- ITS FALSE NEIGHBOUR: 'it returns false'. Refute it at one input. -/
def numTwiceWrong : ChangeSpec := { name := "numTwice", fn := fun _ => fun
  | [d1, d2, d3] => { results := [.lit (.bool false)], args := [d1, d2, d3] }
  | _ => none }
def NumTwiceWrongFalsely : Prop := numTwiceRow.holds Try.pinned (OpenSpec.ofChange numTwiceWrong)

/-- 'messuagelaw01.NumInside': WHATEVER THE INPUT: true; the input reads as it did. -/
def numInsideSpec : ChangeSpec := { name := "numInside", fn := fun _ => fun
  | [d] => { results := [.lit (.bool true)], args := [d] }
  | _ => none }
def numInsideRow : OpenClaim := { program := "ytiekjbejgmdkkaa", sum := "7fd5d97644b0aa1e1e94476992fcb057d3972fdd8db730c1698e6950b3c3573a", func := "messuage/messuagelaw01.NumInside", spec := "numInside", apart := false }
def NumInsideSaid : Prop := numInsideRow.holds Try.pinned (OpenSpec.ofChange numInsideSpec)

/-- ITS FALSE NEIGHBOUR: 'it returns false'. Refute it at one input. -/
def numInsideWrong : ChangeSpec := { name := "numInside", fn := fun _ => fun
  | [d] => { results := [.lit (.bool false)], args := [d] }
  | _ => none }
def NumInsideWrongFalsely : Prop := numInsideRow.holds Try.pinned (OpenSpec.ofChange numInsideWrong)

/-- 'messuagelaw01.NumMoves': WHATEVER THE INPUT: true; the input reads as it did. -/
def numMovesSpec : ChangeSpec := { name := "numMoves", fn := fun _ => fun
  | [d1, d2] => { results := [.lit (.bool true)], args := [d1, d2] }
  | _ => none }
def numMovesRow : OpenClaim := { program := "ytiekjbejgmdkkaa", sum := "7fd5d97644b0aa1e1e94476992fcb057d3972fdd8db730c1698e6950b3c3573a", func := "messuage/messuagelaw01.NumMoves", spec := "numMoves", apart := false }
def NumMovesSaid : Prop := numMovesRow.holds Try.pinned (OpenSpec.ofChange numMovesSpec)

/-- ITS FALSE NEIGHBOUR: 'it returns false'. Refute it at one input. -/
def numMovesWrong : ChangeSpec := { name := "numMoves", fn := fun _ => fun
  | [d1, d2] => { results := [.lit (.bool false)], args := [d1, d2] }
  | _ => none }
def NumMovesWrongFalsely : Prop := numMovesRow.holds Try.pinned (OpenSpec.ofChange numMovesWrong)

/-- 'messuagelaw01.NumHex': WHATEVER THE INPUT: true; the input reads as it did. -/
def numHexSpec : ChangeSpec := { name := "numHex", fn := fun _ => fun
  | [d1, d2] => { results := [.lit (.bool true)], args := [d1, d2] }
  | _ => none }
def numHexRow : OpenClaim := { program := "ytiekjbejgmdkkaa", sum := "7fd5d97644b0aa1e1e94476992fcb057d3972fdd8db730c1698e6950b3c3573a", func := "messuage/messuagelaw01.NumHex", spec := "numHex", apart := false }
def NumHexSaid : Prop := numHexRow.holds Try.pinned (OpenSpec.ofChange numHexSpec)

/-- ITS FALSE NEIGHBOUR: 'it returns false'. Refute it at one input. -/
def numHexWrong : ChangeSpec := { name := "numHex", fn := fun _ => fun
  | [d1, d2] => { results := [.lit (.bool false)], args := [d1, d2] }
  | _ => none }
def NumHexWrongFalsely : Prop := numHexRow.holds Try.pinned (OpenSpec.ofChange numHexWrong)

/-- 'messuagelaw01.NumTexts': WHATEVER THE INPUT: true; the input reads as it did. -/
def numTextsSpec : ChangeSpec := { name := "numTexts", fn := fun _ => fun
  | [d1, d2] => { results := [.lit (.bool true)], args := [d1, d2] }
  | _ => none }
def numTextsRow : OpenClaim := { program := "ytiekjbejgmdkkaa", sum := "7fd5d97644b0aa1e1e94476992fcb057d3972fdd8db730c1698e6950b3c3573a", func := "messuage/messuagelaw01.NumTexts", spec := "numTexts", apart := false }
def NumTextsSaid : Prop := numTextsRow.holds Try.pinned (OpenSpec.ofChange numTextsSpec)

/-- ITS FALSE NEIGHBOUR: 'it returns false'. Refute it at one input. -/
def numTextsWrong : ChangeSpec := { name := "numTexts", fn := fun _ => fun
  | [d1, d2] => { results := [.lit (.bool false)], args := [d1, d2] }
  | _ => none }
def NumTextsWrongFalsely : Prop := numTextsRow.holds Try.pinned (OpenSpec.ofChange numTextsWrong)

/- THE SECOND FORM. 'bulk': how many values and letters a reading holds, each counted each time it is reached (what is shared counts as often as it is met; a slice's spare places count too). A statement '..UptoSaid' is the law's where the arguments, and the package variables that the reading takes, are together of bulk at most 1048576: NARROWER than '..Said'. Prove '..Said' where nothing that the law and all that it calls make is longer than what came in: it says more and counts as full. Else prove '..UptoSaid'. A law counts once. -/
mutual
def uptoBulk {H : Type} : DataW H → Nat
  | .lit (.string bytes) => bytes.length + 1
  | .lit _ => 1
  | .nil => 1
  | .ptr d => uptoBulk d + 1
  | .slice elems spare => uptoBulkAll elems + uptoBulkAll spare + 1
  | .agg parts => uptoBulkAll parts + 1
  | .iface _ d => uptoBulk d + 1
  | .map entries => uptoBulkEntries entries + 1
  | .held _ => 1
def uptoBulkAll {H : Type} : List (DataW H) → Nat
  | [] => 0
  | d :: r => uptoBulk d + uptoBulkAll r
def uptoBulkEntries {H : Type} : List (Lit × DataW H) → Nat
  | [] => 0
  | x :: r => uptoBulkEntry x + uptoBulkEntries r
def uptoBulkEntry {H : Type} : Lit × DataW H → Nat
  | (.string bytes, d) => bytes.length + uptoBulk d + 1
  | (_, d) => uptoBulk d + 1
 end
def uptoSmall : (H : Type) → List (DataW H) → Bool := fun _ ds => decide (uptoBulkAll ds ≤ 1048576)
def OpenSpec.upto (s : _root_.Go.ChangeSpec) : _root_.Go.OpenSpec := { _root_.Go.OpenSpec.ofChange s with cond := some uptoSmall }

/-- 'messuagelaw01.NumPages', WHERE WHAT IT READS IS OF BULK AT MOST 1048576: true; the input reads as it did. -/
def numPagesUptoRow : OpenClaim := { program := "ytiekjbejgmdkkaa", sum := "7fd5d97644b0aa1e1e94476992fcb057d3972fdd8db730c1698e6950b3c3573a", func := "messuage/messuagelaw01.NumPages", spec := "numPages", apart := false, narrowed := true }
def NumPagesUptoSaid : Prop := numPagesUptoRow.holds Try.pinned (OpenSpec.upto numPagesSpec)

/-- 'messuagelaw01.NumSums', WHERE WHAT IT READS IS OF BULK AT MOST 1048576: true; the input reads as it did. -/
def numSumsUptoRow : OpenClaim := { program := "ytiekjbejgmdkkaa", sum := "7fd5d97644b0aa1e1e94476992fcb057d3972fdd8db730c1698e6950b3c3573a", func := "messuage/messuagelaw01.NumSums", spec := "numSums", apart := false, narrowed := true }
def NumSumsUptoSaid : Prop := numSumsUptoRow.holds Try.pinned (OpenSpec.upto numSumsSpec)

/-- 'messuagelaw01.NumRounds', WHERE WHAT IT READS IS OF BULK AT MOST 1048576: true; the input reads as it did. -/
def numRoundsUptoRow : OpenClaim := { program := "ytiekjbejgmdkkaa", sum := "7fd5d97644b0aa1e1e94476992fcb057d3972fdd8db730c1698e6950b3c3573a", func := "messuage/messuagelaw01.NumRounds", spec := "numRounds", apart := false, narrowed := true }
def NumRoundsUptoSaid : Prop := numRoundsUptoRow.holds Try.pinned (OpenSpec.upto numRoundsSpec)

/-- 'messuagelaw01.NumTwice', WHERE WHAT IT READS IS OF BULK AT MOST 1048576: true; the input reads as it did. -/
def numTwiceUptoRow : OpenClaim := { program := "ytiekjbejgmdkkaa", sum := "7fd5d97644b0aa1e1e94476992fcb057d3972fdd8db730c1698e6950b3c3573a", func := "messuage/messuagelaw01.NumTwice", spec := "numTwice", apart := false, narrowed := true }
def NumTwiceUptoSaid : Prop := numTwiceUptoRow.holds Try.pinned (OpenSpec.upto numTwiceSpec)

/-- 'messuagelaw01.NumInside', WHERE WHAT IT READS IS OF BULK AT MOST 1048576: true; the input reads as it did. -/
def numInsideUptoRow : OpenClaim := { program := "ytiekjbejgmdkkaa", sum := "7fd5d97644b0aa1e1e94476992fcb057d3972fdd8db730c1698e6950b3c3573a", func := "messuage/messuagelaw01.NumInside", spec := "numInside", apart := false, narrowed := true }
def NumInsideUptoSaid : Prop := numInsideUptoRow.holds Try.pinned (OpenSpec.upto numInsideSpec)

/-- 'messuagelaw01.NumMoves', WHERE WHAT IT READS IS OF BULK AT MOST 1048576: true; the input reads as it did. -/
def numMovesUptoRow : OpenClaim := { program := "ytiekjbejgmdkkaa", sum := "7fd5d97644b0aa1e1e94476992fcb057d3972fdd8db730c1698e6950b3c3573a", func := "messuage/messuagelaw01.NumMoves", spec := "numMoves", apart := false, narrowed := true }
def NumMovesUptoSaid : Prop := numMovesUptoRow.holds Try.pinned (OpenSpec.upto numMovesSpec)

/-- 'messuagelaw01.NumHex', WHERE WHAT IT READS IS OF BULK AT MOST 1048576: true; the input reads as it did. -/
def numHexUptoRow : OpenClaim := { program := "ytiekjbejgmdkkaa", sum := "7fd5d97644b0aa1e1e94476992fcb057d3972fdd8db730c1698e6950b3c3573a", func := "messuage/messuagelaw01.NumHex", spec := "numHex", apart := false, narrowed := true }
def NumHexUptoSaid : Prop := numHexUptoRow.holds Try.pinned (OpenSpec.upto numHexSpec)

/-- 'messuagelaw01.NumTexts', WHERE WHAT IT READS IS OF BULK AT MOST 1048576: true; the input reads as it did. -/
def numTextsUptoRow : OpenClaim := { program := "ytiekjbejgmdkkaa", sum := "7fd5d97644b0aa1e1e94476992fcb057d3972fdd8db730c1698e6950b3c3573a", func := "messuage/messuagelaw01.NumTexts", spec := "numTexts", apart := false, narrowed := true }
def NumTextsUptoSaid : Prop := numTextsUptoRow.holds Try.pinned (OpenSpec.upto numTextsSpec)

end Rows
end Go.Proofs.Ytiekjbejgmdkkaa
