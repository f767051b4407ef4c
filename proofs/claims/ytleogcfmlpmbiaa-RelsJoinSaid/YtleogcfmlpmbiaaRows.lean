/-
  No cell of these rows narrows 'for every input' (looked for: loops, veiled, ifaces, maps, wideKeys, modest, calm, conditions, laid).
  DERIVED. THE GIVEN ROWS OF THIS SEAT. 12 by the template 'for every input the law returns true; each argument reads behind the call as it read before'; 0 by the template 'total and deterministic' (their statements: YtleogcfmlpmbiaaTotals.lean).
  GIVEN WITH THE SEED: the statements are not yours to turn. If you find one false, say at which input.
  Laid BY PROGRAM, IN A SANDBOX (cutbox-rows.mjs): the forced cells as the released guide's own fill.sh prints them over the translation dcbc6682b63ae98f… (all of the seat's roots in one cut). By AI agents, Wed Nov 11 2026. No macro, syntax, notation, axiom, sorry.
-/
import Derived.Test.YtleogcfmlpmbiaaChecked
import GoSem.Claim
import GoSem.ClaimJoined
import GoSem.ClaimMapViews
import Derived.JoinedTies
import Derived.KernelRfl
namespace Go.Proofs.Ytleogcfmlpmbiaa
/- THE CELL 'sum', in the pinned program and in every row, IS THE sha256 OF THE DUMP (.gsa) THAT YtleogcfmlpmbiaaProg.lean LOADS. Nothing in Lean hashes anything: it is a label: what it is worth is what the hold of that sum in a sandbox is worth. -/
noncomputable def Try.pinned : Pinned := { name := "ytleogcfmlpmbiaa", sum := "dcbc6682b63ae98f01846b0d75ca6e93178733be15ef63fea61f8a717a5e0b49", checked := Try.checked }
namespace Rows
def none {H : Type} : Left H := { results := [], args := [] }

/-- 'messuagelaw02.LeTexts': WHATEVER THE INPUT: true; the input reads as it did. -/
def leTextsSpec : ChangeSpec := { name := "leTexts", fn := fun _ => fun
  | [d1, d2, d3] => { results := [.lit (.bool true)], args := [d1, d2, d3] }
  | _ => none }
def leTextsRow : OpenClaim := { program := "ytleogcfmlpmbiaa", sum := "dcbc6682b63ae98f01846b0d75ca6e93178733be15ef63fea61f8a717a5e0b49", func := "messuage/messuagelaw02.LeTexts", spec := "leTexts", apart := false }
def LeTextsSaid : Prop := leTextsRow.holds Try.pinned (OpenSpec.ofChange leTextsSpec)

/-- ITS FALSE NEIGHBOUR: 'it returns false'. Refute it at one input. -/
def leTextsWrong : ChangeSpec := { name := "leTexts", fn := fun _ => fun
  | [d1, d2, d3] => { results := [.lit (.bool false)], args := [d1, d2, d3] }
  | _ => none }
def LeTextsWrongFalsely : Prop := leTextsRow.holds Try.pinned (OpenSpec.ofChange leTextsWrong)

/-- 'messuagelaw02.LeBehind': WHATEVER THE INPUT: true; the input reads as it did. -/
def leBehindSpec : ChangeSpec := { name := "leBehind", fn := fun _ => fun
  | [d] => { results := [.lit (.bool true)], args := [d] }
  | _ => none }
def leBehindRow : OpenClaim := { program := "ytleogcfmlpmbiaa", sum := "dcbc6682b63ae98f01846b0d75ca6e93178733be15ef63fea61f8a717a5e0b49", func := "messuage/messuagelaw02.LeBehind", spec := "leBehind", apart := false }
def LeBehindSaid : Prop := leBehindRow.holds Try.pinned (OpenSpec.ofChange leBehindSpec)

/-- ITS FALSE NEIGHBOUR: 'it returns false'. Refute it at one input. -/
def leBehindWrong : ChangeSpec := { name := "leBehind", fn := fun _ => fun
  | [d] => { results := [.lit (.bool false)], args := [d] }
  | _ => none }
def LeBehindWrongFalsely : Prop := leBehindRow.holds Try.pinned (OpenSpec.ofChange leBehindWrong)

/-- 'messuagelaw12.RelsBack': WHATEVER THE INPUT: true; the input reads as it did. -/
def relsBackSpec : ChangeSpec := { name := "relsBack", fn := fun _ => fun
  | [d1, d2, d3] => { results := [.lit (.bool true)], args := [d1, d2, d3] }
  | _ => none }
def relsBackRow : OpenClaim := { program := "ytleogcfmlpmbiaa", sum := "dcbc6682b63ae98f01846b0d75ca6e93178733be15ef63fea61f8a717a5e0b49", func := "messuage/messuagelaw12.RelsBack", spec := "relsBack", apart := false }
def RelsBackSaid : Prop := relsBackRow.holds Try.pinned (OpenSpec.ofChange relsBackSpec)

/-- ITS FALSE NEIGHBOUR: 'it returns false'. Refute it at one input. -/
def relsBackWrong : ChangeSpec := { name := "relsBack", fn := fun _ => fun
  | [d1, d2, d3] => { results := [.lit (.bool false)], args := [d1, d2, d3] }
  | _ => none }
def RelsBackWrongFalsely : Prop := relsBackRow.holds Try.pinned (OpenSpec.ofChange relsBackWrong)

/-- 'messuagelaw02.LeReads': WHATEVER THE INPUT: true; the input reads as it did. -/
def leReadsSpec : ChangeSpec := { name := "leReads", fn := fun _ => fun
  | [d1, d2, d3] => { results := [.lit (.bool true)], args := [d1, d2, d3] }
  | _ => none }
def leReadsRow : OpenClaim := { program := "ytleogcfmlpmbiaa", sum := "dcbc6682b63ae98f01846b0d75ca6e93178733be15ef63fea61f8a717a5e0b49", func := "messuage/messuagelaw02.LeReads", spec := "leReads", apart := false }
def LeReadsSaid : Prop := leReadsRow.holds Try.pinned (OpenSpec.ofChange leReadsSpec)

/-- ITS FALSE NEIGHBOUR: 'it returns false'. Refute it at one input. -/
def leReadsWrong : ChangeSpec := { name := "leReads", fn := fun _ => fun
  | [d1, d2, d3] => { results := [.lit (.bool false)], args := [d1, d2, d3] }
  | _ => none }
def LeReadsWrongFalsely : Prop := leReadsRow.holds Try.pinned (OpenSpec.ofChange leReadsWrong)

/-- 'messuagelaw02.LePuts': WHATEVER THE INPUT: true; the input reads as it did. -/
def lePutsSpec : ChangeSpec := { name := "lePuts", fn := fun _ => fun
  | [d] => { results := [.lit (.bool true)], args := [d] }
  | _ => none }
def lePutsRow : OpenClaim := { program := "ytleogcfmlpmbiaa", sum := "dcbc6682b63ae98f01846b0d75ca6e93178733be15ef63fea61f8a717a5e0b49", func := "messuage/messuagelaw02.LePuts", spec := "lePuts", apart := false }
def LePutsSaid : Prop := lePutsRow.holds Try.pinned (OpenSpec.ofChange lePutsSpec)

/-- ITS FALSE NEIGHBOUR: 'it returns false'. Refute it at one input. -/
def lePutsWrong : ChangeSpec := { name := "lePuts", fn := fun _ => fun
  | [d] => { results := [.lit (.bool false)], args := [d] }
  | _ => none }
def LePutsWrongFalsely : Prop := lePutsRow.holds Try.pinned (OpenSpec.ofChange lePutsWrong)

/-- 'messuagelaw02.LeBack': WHATEVER THE INPUT: true; the input reads as it did. -/
def leBackSpec : ChangeSpec := { name := "leBack", fn := fun _ => fun
  | [d1, d2, d3] => { results := [.lit (.bool true)], args := [d1, d2, d3] }
  | _ => none }
def leBackRow : OpenClaim := { program := "ytleogcfmlpmbiaa", sum := "dcbc6682b63ae98f01846b0d75ca6e93178733be15ef63fea61f8a717a5e0b49", func := "messuage/messuagelaw02.LeBack", spec := "leBack", apart := false }
def LeBackSaid : Prop := leBackRow.holds Try.pinned (OpenSpec.ofChange leBackSpec)

/-- ITS FALSE NEIGHBOUR: 'it returns false'. Refute it at one input. -/
def leBackWrong : ChangeSpec := { name := "leBack", fn := fun _ => fun
  | [d1, d2, d3] => { results := [.lit (.bool false)], args := [d1, d2, d3] }
  | _ => none }
def LeBackWrongFalsely : Prop := leBackRow.holds Try.pinned (OpenSpec.ofChange leBackWrong)

/-- 'messuagelaw12.RelsReads': WHATEVER THE INPUT: true; the input reads as it did. -/
def relsReadsSpec : ChangeSpec := { name := "relsReads", fn := fun _ => fun
  | [d1, d2] => { results := [.lit (.bool true)], args := [d1, d2] }
  | _ => none }
def relsReadsRow : OpenClaim := { program := "ytleogcfmlpmbiaa", sum := "dcbc6682b63ae98f01846b0d75ca6e93178733be15ef63fea61f8a717a5e0b49", func := "messuage/messuagelaw12.RelsReads", spec := "relsReads", apart := false }
def RelsReadsSaid : Prop := relsReadsRow.holds Try.pinned (OpenSpec.ofChange relsReadsSpec)

/-- ITS FALSE NEIGHBOUR: 'it returns false'. Refute it at one input. -/
def relsReadsWrong : ChangeSpec := { name := "relsReads", fn := fun _ => fun
  | [d1, d2] => { results := [.lit (.bool false)], args := [d1, d2] }
  | _ => none }
def RelsReadsWrongFalsely : Prop := relsReadsRow.holds Try.pinned (OpenSpec.ofChange relsReadsWrong)

/-- 'messuagelaw12.RelsWrites': WHATEVER THE INPUT: true; the input reads as it did. -/
def relsWritesSpec : ChangeSpec := { name := "relsWrites", fn := fun _ => fun
  | [d1, d2, d3] => { results := [.lit (.bool true)], args := [d1, d2, d3] }
  | _ => none }
def relsWritesRow : OpenClaim := { program := "ytleogcfmlpmbiaa", sum := "dcbc6682b63ae98f01846b0d75ca6e93178733be15ef63fea61f8a717a5e0b49", func := "messuage/messuagelaw12.RelsWrites", spec := "relsWrites", apart := false }
def RelsWritesSaid : Prop := relsWritesRow.holds Try.pinned (OpenSpec.ofChange relsWritesSpec)

/-- ITS FALSE NEIGHBOUR: 'it returns false'. Refute it at one input. -/
def relsWritesWrong : ChangeSpec := { name := "relsWrites", fn := fun _ => fun
  | [d1, d2, d3] => { results := [.lit (.bool false)], args := [d1, d2, d3] }
  | _ => none }
def RelsWritesWrongFalsely : Prop := relsWritesRow.holds Try.pinned (OpenSpec.ofChange relsWritesWrong)

/-- 'messuagelaw12.RelsJoin': WHATEVER THE INPUT: true; the input reads as it did. -/
def relsJoinSpec : ChangeSpec := { name := "relsJoin", fn := fun _ => fun
  | [d1, d2, d3] => { results := [.lit (.bool true)], args := [d1, d2, d3] }
  | _ => none }
def relsJoinRow : OpenClaim := { program := "ytleogcfmlpmbiaa", sum := "dcbc6682b63ae98f01846b0d75ca6e93178733be15ef63fea61f8a717a5e0b49", func := "messuage/messuagelaw12.RelsJoin", spec := "relsJoin", apart := false }
def RelsJoinSaid : Prop := relsJoinRow.holds Try.pinned (OpenSpec.ofChange relsJoinSpec)

/-- ITS FALSE NEIGHBOUR: 'it returns false'. Refute it at one input. -/
def relsJoinWrong : ChangeSpec := { name := "relsJoin", fn := fun _ => fun
  | [d1, d2, d3] => { results := [.lit (.bool false)], args := [d1, d2, d3] }
  | _ => none }
def RelsJoinWrongFalsely : Prop := relsJoinRow.holds Try.pinned (OpenSpec.ofChange relsJoinWrong)

/-- 'messuagelaw14.ApsReads': WHATEVER THE INPUT: true; the input reads as it did. -/
def apsReadsSpec : ChangeSpec := { name := "apsReads", fn := fun _ => fun
  | [d1, d2] => { results := [.lit (.bool true)], args := [d1, d2] }
  | _ => none }
def apsReadsRow : OpenClaim := { program := "ytleogcfmlpmbiaa", sum := "dcbc6682b63ae98f01846b0d75ca6e93178733be15ef63fea61f8a717a5e0b49", func := "messuage/messuagelaw14.ApsReads", spec := "apsReads", unfollowed := true, recurses := true, apart := false }
def ApsReadsSaid : Prop := apsReadsRow.holds Try.pinned (OpenSpec.ofChange apsReadsSpec)

/-- ITS FALSE NEIGHBOUR: 'it returns false'. Refute it at one input. -/
def apsReadsWrong : ChangeSpec := { name := "apsReads", fn := fun _ => fun
  | [d1, d2] => { results := [.lit (.bool false)], args := [d1, d2] }
  | _ => none }
def ApsReadsWrongFalsely : Prop := apsReadsRow.holds Try.pinned (OpenSpec.ofChange apsReadsWrong)

/-- 'messuagelaw14.ApsWrites': WHATEVER THE INPUT: true; the input reads as it did. -/
def apsWritesSpec : ChangeSpec := { name := "apsWrites", fn := fun _ => fun
  | [d1, d2] => { results := [.lit (.bool true)], args := [d1, d2] }
  | _ => none }
def apsWritesRow : OpenClaim := { program := "ytleogcfmlpmbiaa", sum := "dcbc6682b63ae98f01846b0d75ca6e93178733be15ef63fea61f8a717a5e0b49", func := "messuage/messuagelaw14.ApsWrites", spec := "apsWrites", unfollowed := true, recurses := true, apart := false }
def ApsWritesSaid : Prop := apsWritesRow.holds Try.pinned (OpenSpec.ofChange apsWritesSpec)

/-- ITS FALSE NEIGHBOUR: 'it returns false'. Refute it at one input. -/
def apsWritesWrong : ChangeSpec := { name := "apsWrites", fn := fun _ => fun
  | [d1, d2] => { results := [.lit (.bool false)], args := [d1, d2] }
  | _ => none }
def ApsWritesWrongFalsely : Prop := apsWritesRow.holds Try.pinned (OpenSpec.ofChange apsWritesWrong)

/-- 'messuagelaw14.ApsBack': WHATEVER THE INPUT: true; the input reads as it did. -/
def apsBackSpec : ChangeSpec := { name := "apsBack", fn := fun _ => fun
  | [d1, d2, d3] => { results := [.lit (.bool true)], args := [d1, d2, d3] }
  | _ => none }
def apsBackRow : OpenClaim := { program := "ytleogcfmlpmbiaa", sum := "dcbc6682b63ae98f01846b0d75ca6e93178733be15ef63fea61f8a717a5e0b49", func := "messuage/messuagelaw14.ApsBack", spec := "apsBack", unfollowed := true, recurses := true, apart := false }
def ApsBackSaid : Prop := apsBackRow.holds Try.pinned (OpenSpec.ofChange apsBackSpec)

/-- ITS FALSE NEIGHBOUR: 'it returns false'. Refute it at one input. -/
def apsBackWrong : ChangeSpec := { name := "apsBack", fn := fun _ => fun
  | [d1, d2, d3] => { results := [.lit (.bool false)], args := [d1, d2, d3] }
  | _ => none }
def ApsBackWrongFalsely : Prop := apsBackRow.holds Try.pinned (OpenSpec.ofChange apsBackWrong)

/- THE SECOND FORM. 'bulk': how many values and letters a reading holds, each counted each time it is reached (what is shared counts as often as it is met; a slice's spare places count too). A statement '..UptoSaid' is the law's where the arguments, and the package variables that the reading takes, are together of bulk at most 1048576: NARROWER than '..Said'. Prove '..Said' where nothing that the law and all that it calls make is longer than what came in: it says more and counts as full. Else prove '..UptoSaid'. A law counts once. -/
mutual
def uptoBulk {H : Type} : DataW H → Nat
  | .lit (.string bytes) => bytes.length + 1
  | .lit _ => 1
  | .nil => 1
  | .ptr d => uptoBulk d + 1
  | .slice elems spare => uptoBulkAll elems + uptoBulkAll spare + 1
  | .agg parts => uptoBulkAll parts + 1
  | .iface _ d => uptoBulk d + 1
  | .map entries => uptoBulkEntries entries + 1
  | .held _ => 1
def uptoBulkAll {H : Type} : List (DataW H) → Nat
  | [] => 0
  | d :: r => uptoBulk d + uptoBulkAll r
def uptoBulkEntries {H : Type} : List (Lit × DataW H) → Nat
  | [] => 0
  | x :: r => uptoBulkEntry x + uptoBulkEntries r
def uptoBulkEntry {H : Type} : Lit × DataW H → Nat
  | (.string bytes, d) => bytes.length + uptoBulk d + 1
  | (_, d) => uptoBulk d + 1
 end
def uptoSmall : (H : Type) → List (DataW H) → Bool := fun _ ds => decide (uptoBulkAll ds ≤ 1048576)
def OpenSpec.upto (s : _root_.Go.ChangeSpec) : _root_.Go.OpenSpec := { _root_.Go.OpenSpec.ofChange s with cond := some uptoSmall }

/-- 'messuagelaw02.LeTexts', WHERE WHAT IT READS IS OF BULK AT MOST 1048576: true; the input reads as it did. -/
def leTextsUptoRow : OpenClaim := { program := "ytleogcfmlpmbiaa", sum := "dcbc6682b63ae98f01846b0d75ca6e93178733be15ef63fea61f8a717a5e0b49", func := "messuage/messuagelaw02.LeTexts", spec := "leTexts", apart := false, narrowed := true }
def LeTextsUptoSaid : Prop := leTextsUptoRow.holds Try.pinned (OpenSpec.upto leTextsSpec)

/-- 'messuagelaw02.LeBehind', WHERE WHAT IT READS IS OF BULK AT MOST 1048576: true; the input reads as it did. -/
def leBehindUptoRow : OpenClaim := { program := "ytleogcfmlpmbiaa", sum := "dcbc6682b63ae98f01846b0d75ca6e93178733be15ef63fea61f8a717a5e0b49", func := "messuage/messuagelaw02.LeBehind", spec := "leBehind", apart := false, narrowed := true }
def LeBehindUptoSaid : Prop := leBehindUptoRow.holds Try.pinned (OpenSpec.upto leBehindSpec)

/-- 'messuagelaw12.RelsBack', WHERE WHAT IT READS IS OF BULK AT MOST 1048576: true; the input reads as it did. -/
def relsBackUptoRow : OpenClaim := { program := "ytleogcfmlpmbiaa", sum := "dcbc6682b63ae98f01846b0d75ca6e93178733be15ef63fea61f8a717a5e0b49", func := "messuage/messuagelaw12.RelsBack", spec := "relsBack", apart := false, narrowed := true }
def RelsBackUptoSaid : Prop := relsBackUptoRow.holds Try.pinned (OpenSpec.upto relsBackSpec)

/-- 'messuagelaw02.LeReads', WHERE WHAT IT READS IS OF BULK AT MOST 1048576: true; the input reads as it did. -/
def leReadsUptoRow : OpenClaim := { program := "ytleogcfmlpmbiaa", sum := "dcbc6682b63ae98f01846b0d75ca6e93178733be15ef63fea61f8a717a5e0b49", func := "messuage/messuagelaw02.LeReads", spec := "leReads", apart := false, narrowed := true }
def LeReadsUptoSaid : Prop := leReadsUptoRow.holds Try.pinned (OpenSpec.upto leReadsSpec)

/-- 'messuagelaw02.LePuts', WHERE WHAT IT READS IS OF BULK AT MOST 1048576: true; the input reads as it did. -/
def lePutsUptoRow : OpenClaim := { program := "ytleogcfmlpmbiaa", sum := "dcbc6682b63ae98f01846b0d75ca6e93178733be15ef63fea61f8a717a5e0b49", func := "messuage/messuagelaw02.LePuts", spec := "lePuts", apart := false, narrowed := true }
def LePutsUptoSaid : Prop := lePutsUptoRow.holds Try.pinned (OpenSpec.upto lePutsSpec)

/-- 'messuagelaw02.LeBack', WHERE WHAT IT READS IS OF BULK AT MOST 1048576: true; the input reads as it did. -/
def leBackUptoRow : OpenClaim := { program := "ytleogcfmlpmbiaa", sum := "dcbc6682b63ae98f01846b0d75ca6e93178733be15ef63fea61f8a717a5e0b49", func := "messuage/messuagelaw02.LeBack", spec := "leBack", apart := false, narrowed := true }
def LeBackUptoSaid : Prop := leBackUptoRow.holds Try.pinned (OpenSpec.upto leBackSpec)

/-- 'messuagelaw12.RelsReads', WHERE WHAT IT READS IS OF BULK AT MOST 1048576: true; the input reads as it did. -/
def relsReadsUptoRow : OpenClaim := { program := "ytleogcfmlpmbiaa", sum := "dcbc6682b63ae98f01846b0d75ca6e93178733be15ef63fea61f8a717a5e0b49", func := "messuage/messuagelaw12.RelsReads", spec := "relsReads", apart := false, narrowed := true }
def RelsReadsUptoSaid : Prop := relsReadsUptoRow.holds Try.pinned (OpenSpec.upto relsReadsSpec)

/-- 'messuagelaw12.RelsWrites', WHERE WHAT IT READS IS OF BULK AT MOST 1048576: true; the input reads as it did. -/
def relsWritesUptoRow : OpenClaim := { program := "ytleogcfmlpmbiaa", sum := "dcbc6682b63ae98f01846b0d75ca6e93178733be15ef63fea61f8a717a5e0b49", func := "messuage/messuagelaw12.RelsWrites", spec := "relsWrites", apart := false, narrowed := true }
def RelsWritesUptoSaid : Prop := relsWritesUptoRow.holds Try.pinned (OpenSpec.upto relsWritesSpec)

/-- 'messuagelaw12.RelsJoin', WHERE WHAT IT READS IS OF BULK AT MOST 1048576: true; the input reads as it did. -/
def relsJoinUptoRow : OpenClaim := { program := "ytleogcfmlpmbiaa", sum := "dcbc6682b63ae98f01846b0d75ca6e93178733be15ef63fea61f8a717a5e0b49", func := "messuage/messuagelaw12.RelsJoin", spec := "relsJoin", apart := false, narrowed := true }
def RelsJoinUptoSaid : Prop := relsJoinUptoRow.holds Try.pinned (OpenSpec.upto relsJoinSpec)

/-- 'messuagelaw14.ApsReads', WHERE WHAT IT READS IS OF BULK AT MOST 1048576: true; the input reads as it did. -/
def apsReadsUptoRow : OpenClaim := { program := "ytleogcfmlpmbiaa", sum := "dcbc6682b63ae98f01846b0d75ca6e93178733be15ef63fea61f8a717a5e0b49", func := "messuage/messuagelaw14.ApsReads", spec := "apsReads", unfollowed := true, recurses := true, apart := false, narrowed := true }
def ApsReadsUptoSaid : Prop := apsReadsUptoRow.holds Try.pinned (OpenSpec.upto apsReadsSpec)

/-- 'messuagelaw14.ApsWrites', WHERE WHAT IT READS IS OF BULK AT MOST 1048576: true; the input reads as it did. -/
def apsWritesUptoRow : OpenClaim := { program := "ytleogcfmlpmbiaa", sum := "dcbc6682b63ae98f01846b0d75ca6e93178733be15ef63fea61f8a717a5e0b49", func := "messuage/messuagelaw14.ApsWrites", spec := "apsWrites", unfollowed := true, recurses := true, apart := false, narrowed := true }
def ApsWritesUptoSaid : Prop := apsWritesUptoRow.holds Try.pinned (OpenSpec.upto apsWritesSpec)

/-- 'messuagelaw14.ApsBack', WHERE WHAT IT READS IS OF BULK AT MOST 1048576: true; the input reads as it did. -/
def apsBackUptoRow : OpenClaim := { program := "ytleogcfmlpmbiaa", sum := "dcbc6682b63ae98f01846b0d75ca6e93178733be15ef63fea61f8a717a5e0b49", func := "messuage/messuagelaw14.ApsBack", spec := "apsBack", unfollowed := true, recurses := true, apart := false, narrowed := true }
def ApsBackUptoSaid : Prop := apsBackUptoRow.holds Try.pinned (OpenSpec.upto apsBackSpec)

end Rows
end Go.Proofs.Ytleogcfmlpmbiaa
