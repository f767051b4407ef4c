/-
  No cell of these rows narrows 'for every input' (looked for: loops, veiled, ifaces, maps, wideKeys, modest, calm, conditions, laid).
  DERIVED. THE GIVEN ROWS OF THIS SEAT. 4 by the template 'for every input the law returns true; each argument reads behind the call as it read before'; 0 by the template 'total and deterministic' (their statements: YtdajdgjacajemaaGreatTotals.lean).
  GIVEN WITH THE SEED: the statements are not yours to turn. If you find one false, say at which input.
  Laid BY PROGRAM, IN A SANDBOX (cutbox-rows.mjs): the forced cells as the released guide's own fill.sh prints them over the translation 511eed19417ad411… (all of the seat's roots in one cut). By AI agents, Wed Nov 11 2026. No macro, syntax, notation, axiom, sorry.
-/
import Derived.Test.YtdajdgjacajemaaGreatChecked
import GoSem.Claim
import GoSem.ClaimJoined
import GoSem.ClaimMapViews
import Derived.JoinedTies
import Derived.KernelRfl
namespace Go.Proofs.YtdajdgjacajemaaGreat
/- THE CELL 'sum', in the pinned program and in every row, IS THE sha256 OF THE DUMP (.gsa) THAT YtdajdgjacajemaaGreatProg.lean LOADS. Nothing in Lean hashes anything: it is a label: what it is worth is what the hold of that sum in a sandbox is worth. -/
noncomputable def Tryz.pinned : Pinned := { name := "ytdajdgjacajemaagreat", sum := "511eed19417ad411f00d84027aa5f328052b743de4661f4cc0032d4c977dba84", checked := Tryz.checked }
namespace Rows
def none {H : Type} : Left H := { results := [], args := [] }

/-- 'messuagelaw16.ImageSafe': WHATEVER THE INPUT: true; the input reads as it did. -/
def imageSafeSpec : ChangeSpec := { name := "imageSafe", fn := fun _ => fun
  | [d] => { results := [.lit (.bool true)], args := [d] }
  | _ => none }
def imageSafeRow : OpenClaim := { program := "ytdajdgjacajemaagreat", sum := "511eed19417ad411f00d84027aa5f328052b743de4661f4cc0032d4c977dba84", func := "messuage/messuagelaw16.ImageSafe", spec := "imageSafe", unfollowed := true, recurses := true, apart := false }
def ImageSafeSaid : Prop := imageSafeRow.holds Tryz.pinned (OpenSpec.ofChange imageSafeSpec)

/-- ITS FALSE NEIGHBOUR: 'it returns false'. Refute it at one input. -/
def imageSafeWrong : ChangeSpec := { name := "imageSafe", fn := fun _ => fun
  | [d] => { results := [.lit (.bool false)], args := [d] }
  | _ => none }
def ImageSafeWrongFalsely : Prop := imageSafeRow.holds Tryz.pinned (OpenSpec.ofChange imageSafeWrong)

/-- 'messuagelaw16.ImageOnly': WHATEVER THE INPUT: true; the input reads as it did. -/
def imageOnlySpec : ChangeSpec := { name := "imageOnly", fn := fun _ => fun
  | [d1, d2, d3] => { results := [.lit (.bool true)], args := [d1, d2, d3] }
  | _ => none }
def imageOnlyRow : OpenClaim := { program := "ytdajdgjacajemaagreat", sum := "511eed19417ad411f00d84027aa5f328052b743de4661f4cc0032d4c977dba84", func := "messuage/messuagelaw16.ImageOnly", spec := "imageOnly", unfollowed := true, recurses := true, apart := false }
def ImageOnlySaid : Prop := imageOnlyRow.holds Tryz.pinned (OpenSpec.ofChange imageOnlySpec)

/-- ITS FALSE NEIGHBOUR: 'it returns false'. Refute it at one input. -/
def imageOnlyWrong : ChangeSpec := { name := "imageOnly", fn := fun _ => fun
  | [d1, d2, d3] => { results := [.lit (.bool false)], args := [d1, d2, d3] }
  | _ => none }
def ImageOnlyWrongFalsely : Prop := imageOnlyRow.holds Tryz.pinned (OpenSpec.ofChange imageOnlyWrong)

/-- 'messuagelaw32.DumpWrites': WHATEVER THE INPUT: true; the input reads as it did. -/
def dumpWritesSpec : ChangeSpec := { name := "dumpWrites", fn := fun _ => fun
  | [d1, d2] => { results := [.lit (.bool true)], args := [d1, d2] }
  | _ => none }
def dumpWritesRow : OpenClaim := { program := "ytdajdgjacajemaagreat", sum := "511eed19417ad411f00d84027aa5f328052b743de4661f4cc0032d4c977dba84", func := "messuage/messuagelaw32.DumpWrites", spec := "dumpWrites", inPlace := ["internal/abi.NoEscape"], unfollowed := true, recurses := true, apart := false }
def DumpWritesSaid : Prop := dumpWritesRow.holds Tryz.pinned (OpenSpec.ofChange dumpWritesSpec)

/-- ITS FALSE NEIGHBOUR: 'it returns false'. Refute it at one input. -/
def dumpWritesWrong : ChangeSpec := { name := "dumpWrites", fn := fun _ => fun
  | [d1, d2] => { results := [.lit (.bool false)], args := [d1, d2] }
  | _ => none }
def DumpWritesWrongFalsely : Prop := dumpWritesRow.holds Tryz.pinned (OpenSpec.ofChange dumpWritesWrong)

/-- 'messuagelaw32.DumpJoins': WHATEVER THE INPUT: true; the input reads as it did. -/
def dumpJoinsSpec : ChangeSpec := { name := "dumpJoins", fn := fun _ => fun
  | [d1, d2, d3] => { results := [.lit (.bool true)], args := [d1, d2, d3] }
  | _ => none }
def dumpJoinsRow : OpenClaim := { program := "ytdajdgjacajemaagreat", sum := "511eed19417ad411f00d84027aa5f328052b743de4661f4cc0032d4c977dba84", func := "messuage/messuagelaw32.DumpJoins", spec := "dumpJoins", inPlace := ["internal/abi.NoEscape"], unfollowed := true, recurses := true, apart := false }
def DumpJoinsSaid : Prop := dumpJoinsRow.holds Tryz.pinned (OpenSpec.ofChange dumpJoinsSpec)

/-- ITS FALSE NEIGHBOUR: 'it returns false'. Refute it at one input. -/
def dumpJoinsWrong : ChangeSpec := { name := "dumpJoins", fn := fun _ => fun
  | [d1, d2, d3] => { results := [.lit (.bool false)], args := [d1, d2, d3] }
  | _ => none }
def DumpJoinsWrongFalsely : Prop := dumpJoinsRow.holds Tryz.pinned (OpenSpec.ofChange dumpJoinsWrong)

/- THE SECOND FORM. 'bulk': how many values and letters a reading holds, each counted each time it is reached (what is shared counts as often as it is met; a slice's spare places count too). A statement '..UptoSaid' is the law's where the arguments, and the package variables that the reading takes, are together of bulk at most 1048576: NARROWER than '..Said'. Prove '..Said' where nothing that the law and all that it calls make is longer than what came in: it says more and counts as full. Else prove '..UptoSaid'. A law counts once. -/
mutual
def uptoBulk {H : Type} : DataW H → Nat
  | .lit (.string bytes) => bytes.length + 1
  | .lit _ => 1
  | .nil => 1
  | .ptr d => uptoBulk d + 1
  | .slice elems spare => uptoBulkAll elems + uptoBulkAll spare + 1
  | .agg parts => uptoBulkAll parts + 1
  | .iface _ d => uptoBulk d + 1
  | .map entries => uptoBulkEntries entries + 1
  | .held _ => 1
def uptoBulkAll {H : Type} : List (DataW H) → Nat
  | [] => 0
  | d :: r => uptoBulk d + uptoBulkAll r
def uptoBulkEntries {H : Type} : List (Lit × DataW H) → Nat
  | [] => 0
  | x :: r => uptoBulkEntry x + uptoBulkEntries r
def uptoBulkEntry {H : Type} : Lit × DataW H → Nat
  | (.string bytes, d) => bytes.length + uptoBulk d + 1
  | (_, d) => uptoBulk d + 1
 end
def uptoSmall : (H : Type) → List (DataW H) → Bool := fun _ ds => decide (uptoBulkAll ds ≤ 1048576)
def OpenSpec.upto (s : _root_.Go.ChangeSpec) : _root_.Go.OpenSpec := { _root_.Go.OpenSpec.ofChange s with cond := some uptoSmall }

/-- 'messuagelaw16.ImageSafe', WHERE WHAT IT READS IS OF BULK AT MOST 1048576: true; the input reads as it did. -/
def imageSafeUptoRow : OpenClaim := { program := "ytdajdgjacajemaagreat", sum := "511eed19417ad411f00d84027aa5f328052b743de4661f4cc0032d4c977dba84", func := "messuage/messuagelaw16.ImageSafe", spec := "imageSafe", unfollowed := true, recurses := true, apart := false, narrowed := true }
def ImageSafeUptoSaid : Prop := imageSafeUptoRow.holds Tryz.pinned (OpenSpec.upto imageSafeSpec)

/-- 'messuagelaw16.ImageOnly', WHERE WHAT IT READS IS OF BULK AT MOST 1048576: true; the input reads as it did. -/
def imageOnlyUptoRow : OpenClaim := { program := "ytdajdgjacajemaagreat", sum := "511eed19417ad411f00d84027aa5f328052b743de4661f4cc0032d4c977dba84", func := "messuage/messuagelaw16.ImageOnly", spec := "imageOnly", unfollowed := true, recurses := true, apart := false, narrowed := true }
def ImageOnlyUptoSaid : Prop := imageOnlyUptoRow.holds Tryz.pinned (OpenSpec.upto imageOnlySpec)

/-- 'messuagelaw32.DumpWrites', WHERE WHAT IT READS IS OF BULK AT MOST 1048576: true; the input reads as it did. -/
def dumpWritesUptoRow : OpenClaim := { program := "ytdajdgjacajemaagreat", sum := "511eed19417ad411f00d84027aa5f328052b743de4661f4cc0032d4c977dba84", func := "messuage/messuagelaw32.DumpWrites", spec := "dumpWrites", inPlace := ["internal/abi.NoEscape"], unfollowed := true, recurses := true, apart := false, narrowed := true }
def DumpWritesUptoSaid : Prop := dumpWritesUptoRow.holds Tryz.pinned (OpenSpec.upto dumpWritesSpec)

/-- 'messuagelaw32.DumpJoins', WHERE WHAT IT READS IS OF BULK AT MOST 1048576: true; the input reads as it did. -/
def dumpJoinsUptoRow : OpenClaim := { program := "ytdajdgjacajemaagreat", sum := "511eed19417ad411f00d84027aa5f328052b743de4661f4cc0032d4c977dba84", func := "messuage/messuagelaw32.DumpJoins", spec := "dumpJoins", inPlace := ["internal/abi.NoEscape"], unfollowed := true, recurses := true, apart := false, narrowed := true }
def DumpJoinsUptoSaid : Prop := dumpJoinsUptoRow.holds Tryz.pinned (OpenSpec.upto dumpJoinsSpec)

end Rows
end Go.Proofs.YtdajdgjacajemaaGreat
