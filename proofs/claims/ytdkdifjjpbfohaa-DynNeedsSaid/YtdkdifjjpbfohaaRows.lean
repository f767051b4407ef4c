/-
  No cell of these rows narrows 'for every input' (looked for: loops, veiled, ifaces, maps, wideKeys, modest, calm, conditions, laid).
  DERIVED. THE GIVEN ROWS OF THIS SEAT. 9 by the template 'for every input the law returns true; each argument reads behind the call as it read before'; 0 by the template 'total and deterministic' (their statements: YtdkdifjjpbfohaaTotals.lean).
  GIVEN WITH THE SEED: the statements are not yours to turn. If you find one false, say at which input.
  Laid BY PROGRAM, IN A SANDBOX (cutbox-rows.mjs): the forced cells as the released guide's own fill.sh prints them over the translation 25a58ebd43a80fa9… (all of the seat's roots in one cut). By AI agents, Wed Nov 11 2026. No macro, syntax, notation, axiom, sorry.
-/
import Derived.Test.YtdkdifjjpbfohaaChecked
import GoSem.Claim
import GoSem.ClaimJoined
import GoSem.ClaimMapViews
import Derived.JoinedTies
import Derived.KernelRfl
namespace Go.Proofs.Ytdkdifjjpbfohaa
/- THE CELL 'sum', in the pinned program and in every row, IS THE sha256 OF THE DUMP (.gsa) THAT YtdkdifjjpbfohaaProg.lean LOADS. Nothing in Lean hashes anything: it is a label: what it is worth is what the hold of that sum in a sandbox is worth. -/
noncomputable def Try.pinned : Pinned := { name := "ytdkdifjjpbfohaa", sum := "25a58ebd43a80fa9180f57722cfc2903b6f661ce7fa9b51efe04b4db7a2b99fd", checked := Try.checked }
namespace Rows
def none {H : Type} : Left H := { results := [], args := [] }

/-- 'messuagelaw03.LebPuts': WHATEVER THE INPUT: true; the input reads as it did. -/
def lebPutsSpec : ChangeSpec := { name := "lebPuts", fn := fun _ => fun
  | [d1, d2] => { results := [.lit (.bool true)], args := [d1, d2] }
  | _ => none }
def lebPutsRow : OpenClaim := { program := "ytdkdifjjpbfohaa", sum := "25a58ebd43a80fa9180f57722cfc2903b6f661ce7fa9b51efe04b4db7a2b99fd", func := "messuage/messuagelaw03.LebPuts", spec := "lebPuts", apart := false }
def LebPutsSaid : Prop := lebPutsRow.holds Try.pinned (OpenSpec.ofChange lebPutsSpec)

/-- ITS FALSE NEIGHBOUR: 'it returns false'. Refute it at one input. -/
def lebPutsWrong : ChangeSpec := { name := "lebPuts", fn := fun _ => fun
  | [d1, d2] => { results := [.lit (.bool false)], args := [d1, d2] }
  | _ => none }
def LebPutsWrongFalsely : Prop := lebPutsRow.holds Try.pinned (OpenSpec.ofChange lebPutsWrong)

/-- 'messuagelaw03.LebShort': WHATEVER THE INPUT: true; the input reads as it did. -/
def lebShortSpec : ChangeSpec := { name := "lebShort", fn := fun _ => fun
  | [d1, d2, d3] => { results := [.lit (.bool true)], args := [d1, d2, d3] }
  | _ => none }
def lebShortRow : OpenClaim := { program := "ytdkdifjjpbfohaa", sum := "25a58ebd43a80fa9180f57722cfc2903b6f661ce7fa9b51efe04b4db7a2b99fd", func := "messuage/messuagelaw03.LebShort", spec := "lebShort", apart := false }
def LebShortSaid : Prop := lebShortRow.holds Try.pinned (OpenSpec.ofChange lebShortSpec)

/-- ITS FALSE NEIGHBOUR: 'it returns false'. Refute it at one input. -/
def lebShortWrong : ChangeSpec := { name := "lebShort", fn := fun _ => fun
  | [d1, d2, d3] => { results := [.lit (.bool false)], args := [d1, d2, d3] }
  | _ => none }
def LebShortWrongFalsely : Prop := lebShortRow.holds Try.pinned (OpenSpec.ofChange lebShortWrong)

/-- 'messuagelaw03.LebReads': WHATEVER THE INPUT: true; the input reads as it did. -/
def lebReadsSpec : ChangeSpec := { name := "lebReads", fn := fun _ => fun
  | [d1, d2] => { results := [.lit (.bool true)], args := [d1, d2] }
  | _ => none }
def lebReadsRow : OpenClaim := { program := "ytdkdifjjpbfohaa", sum := "25a58ebd43a80fa9180f57722cfc2903b6f661ce7fa9b51efe04b4db7a2b99fd", func := "messuage/messuagelaw03.LebReads", spec := "lebReads", apart := false }
def LebReadsSaid : Prop := lebReadsRow.holds Try.pinned (OpenSpec.ofChange lebReadsSpec)

/-- ITS FALSE NEIGHBOUR: 'it returns false'. Refute it at one input. -/
def lebReadsWrong : ChangeSpec := { name := "lebReads", fn := fun _ => fun
  | [d1, d2] => { results := [.lit (.bool false)], args := [d1, d2] }
  | _ => none }
def LebReadsWrongFalsely : Prop := lebReadsRow.holds Try.pinned (OpenSpec.ofChange lebReadsWrong)

/-- 'messuagelaw03.LebBack': WHATEVER THE INPUT: true; the input reads as it did. -/
def lebBackSpec : ChangeSpec := { name := "lebBack", fn := fun _ => fun
  | [d] => { results := [.lit (.bool true)], args := [d] }
  | _ => none }
def lebBackRow : OpenClaim := { program := "ytdkdifjjpbfohaa", sum := "25a58ebd43a80fa9180f57722cfc2903b6f661ce7fa9b51efe04b4db7a2b99fd", func := "messuage/messuagelaw03.LebBack", spec := "lebBack", apart := false }
def LebBackSaid : Prop := lebBackRow.holds Try.pinned (OpenSpec.ofChange lebBackSpec)

/-- ITS FALSE NEIGHBOUR: 'it returns false'. Refute it at one input. -/
def lebBackWrong : ChangeSpec := { name := "lebBack", fn := fun _ => fun
  | [d] => { results := [.lit (.bool false)], args := [d] }
  | _ => none }
def LebBackWrongFalsely : Prop := lebBackRow.holds Try.pinned (OpenSpec.ofChange lebBackWrong)

/-- 'messuagelaw03.LebLong': WHATEVER THE INPUT: true; the input reads as it did. -/
def lebLongSpec : ChangeSpec := { name := "lebLong", fn := fun _ => fun
  | [d1, d2] => { results := [.lit (.bool true)], args := [d1, d2] }
  | _ => none }
def lebLongRow : OpenClaim := { program := "ytdkdifjjpbfohaa", sum := "25a58ebd43a80fa9180f57722cfc2903b6f661ce7fa9b51efe04b4db7a2b99fd", func := "messuage/messuagelaw03.LebLong", spec := "lebLong", apart := false }
def LebLongSaid : Prop := lebLongRow.holds Try.pinned (OpenSpec.ofChange lebLongSpec)

/-- ITS FALSE NEIGHBOUR: 'it returns false'. Refute it at one input. -/
def lebLongWrong : ChangeSpec := { name := "lebLong", fn := fun _ => fun
  | [d1, d2] => { results := [.lit (.bool false)], args := [d1, d2] }
  | _ => none }
def LebLongWrongFalsely : Prop := lebLongRow.holds Try.pinned (OpenSpec.ofChange lebLongWrong)

/-- 'messuagelaw14.ApsReads': WHATEVER THE INPUT: true; the input reads as it did. -/
def apsReadsSpec : ChangeSpec := { name := "apsReads", fn := fun _ => fun
  | [d1, d2] => { results := [.lit (.bool true)], args := [d1, d2] }
  | _ => none }
def apsReadsRow : OpenClaim := { program := "ytdkdifjjpbfohaa", sum := "25a58ebd43a80fa9180f57722cfc2903b6f661ce7fa9b51efe04b4db7a2b99fd", func := "messuage/messuagelaw14.ApsReads", spec := "apsReads", unfollowed := true, recurses := true, apart := false }
def ApsReadsSaid : Prop := apsReadsRow.holds Try.pinned (OpenSpec.ofChange apsReadsSpec)

/-- ITS FALSE NEIGHBOUR: 'it returns false'. Refute it at one input. -/
def apsReadsWrong : ChangeSpec := { name := "apsReads", fn := fun _ => fun
  | [d1, d2] => { results := [.lit (.bool false)], args := [d1, d2] }
  | _ => none }
def ApsReadsWrongFalsely : Prop := apsReadsRow.holds Try.pinned (OpenSpec.ofChange apsReadsWrong)

/-- 'messuagelaw14.ApsWrites': WHATEVER THE INPUT: true; the input reads as it did. -/
def apsWritesSpec : ChangeSpec := { name := "apsWrites", fn := fun _ => fun
  | [d1, d2] => { results := [.lit (.bool true)], args := [d1, d2] }
  | _ => none }
def apsWritesRow : OpenClaim := { program := "ytdkdifjjpbfohaa", sum := "25a58ebd43a80fa9180f57722cfc2903b6f661ce7fa9b51efe04b4db7a2b99fd", func := "messuage/messuagelaw14.ApsWrites", spec := "apsWrites", unfollowed := true, recurses := true, apart := false }
def ApsWritesSaid : Prop := apsWritesRow.holds Try.pinned (OpenSpec.ofChange apsWritesSpec)

/-- ITS FALSE NEIGHBOUR: 'it returns false'. Refute it at one input. -/
def apsWritesWrong : ChangeSpec := { name := "apsWrites", fn := fun _ => fun
  | [d1, d2] => { results := [.lit (.bool false)], args := [d1, d2] }
  | _ => none }
def ApsWritesWrongFalsely : Prop := apsWritesRow.holds Try.pinned (OpenSpec.ofChange apsWritesWrong)

/-- 'messuagelaw14.ApsBack': WHATEVER THE INPUT: true; the input reads as it did. -/
def apsBackSpec : ChangeSpec := { name := "apsBack", fn := fun _ => fun
  | [d1, d2, d3] => { results := [.lit (.bool true)], args := [d1, d2, d3] }
  | _ => none }
def apsBackRow : OpenClaim := { program := "ytdkdifjjpbfohaa", sum := "25a58ebd43a80fa9180f57722cfc2903b6f661ce7fa9b51efe04b4db7a2b99fd", func := "messuage/messuagelaw14.ApsBack", spec := "apsBack", unfollowed := true, recurses := true, apart := false }
def ApsBackSaid : Prop := apsBackRow.holds Try.pinned (OpenSpec.ofChange apsBackSpec)

/-- ITS FALSE NEIGHBOUR: 'it returns false'. Refute it at one input. -/
def apsBackWrong : ChangeSpec := { name := "apsBack", fn := fun _ => fun
  | [d1, d2, d3] => { results := [.lit (.bool false)], args := [d1, d2, d3] }
  | _ => none }
def ApsBackWrongFalsely : Prop := apsBackRow.holds Try.pinned (OpenSpec.ofChange apsBackWrong)

/-- 'messuagelaw09.DynNeeds': WHATEVER THE INPUT: true; the input reads as it did. -/
def dynNeedsSpec : ChangeSpec := { name := "dynNeeds", fn := fun _ => fun
  | [d] => { results := [.lit (.bool true)], args := [d] }
  | _ => none }
def dynNeedsRow : OpenClaim := { program := "ytdkdifjjpbfohaa", sum := "25a58ebd43a80fa9180f57722cfc2903b6f661ce7fa9b51efe04b4db7a2b99fd", func := "messuage/messuagelaw09.DynNeeds", spec := "dynNeeds", apart := false }
def DynNeedsSaid : Prop := dynNeedsRow.holds Try.pinned (OpenSpec.ofChange dynNeedsSpec)

/-- ITS FALSE NEIGHBOUR: 'it returns false'. Refute it at one input. -/
def dynNeedsWrong : ChangeSpec := { name := "dynNeeds", fn := fun _ => fun
  | [d] => { results := [.lit (.bool false)], args := [d] }
  | _ => none }
def DynNeedsWrongFalsely : Prop := dynNeedsRow.holds Try.pinned (OpenSpec.ofChange dynNeedsWrong)

/- THE SECOND FORM. 'bulk': how many values and letters a reading holds, each counted each time it is reached (what is shared counts as often as it is met; a slice's spare places count too). A statement '..UptoSaid' is the law's where the arguments, and the package variables that the reading takes, are together of bulk at most 1048576: NARROWER than '..Said'. Prove '..Said' where nothing that the law and all that it calls make is longer than what came in: it says more and counts as full. Else prove '..UptoSaid'. A law counts once. -/
mutual
def uptoBulk {H : Type} : DataW H → Nat
  | .lit (.string bytes) => bytes.length + 1
  | .lit _ => 1
  | .nil => 1
  | .ptr d => uptoBulk d + 1
  | .slice elems spare => uptoBulkAll elems + uptoBulkAll spare + 1
  | .agg parts => uptoBulkAll parts + 1
  | .iface _ d => uptoBulk d + 1
  | .map entries => uptoBulkEntries entries + 1
  | .held _ => 1
def uptoBulkAll {H : Type} : List (DataW H) → Nat
  | [] => 0
  | d :: r => uptoBulk d + uptoBulkAll r
def uptoBulkEntries {H : Type} : List (Lit × DataW H) → Nat
  | [] => 0
  | x :: r => uptoBulkEntry x + uptoBulkEntries r
def uptoBulkEntry {H : Type} : Lit × DataW H → Nat
  | (.string bytes, d) => bytes.length + uptoBulk d + 1
  | (_, d) => uptoBulk d + 1
 end
def uptoSmall : (H : Type) → List (DataW H) → Bool := fun _ ds => decide (uptoBulkAll ds ≤ 1048576)
def OpenSpec.upto (s : _root_.Go.ChangeSpec) : _root_.Go.OpenSpec := { _root_.Go.OpenSpec.ofChange s with cond := some uptoSmall }

/-- 'messuagelaw03.LebPuts', WHERE WHAT IT READS IS OF BULK AT MOST 1048576: true; the input reads as it did. -/
def lebPutsUptoRow : OpenClaim := { program := "ytdkdifjjpbfohaa", sum := "25a58ebd43a80fa9180f57722cfc2903b6f661ce7fa9b51efe04b4db7a2b99fd", func := "messuage/messuagelaw03.LebPuts", spec := "lebPuts", apart := false, narrowed := true }
def LebPutsUptoSaid : Prop := lebPutsUptoRow.holds Try.pinned (OpenSpec.upto lebPutsSpec)

/-- 'messuagelaw03.LebShort', WHERE WHAT IT READS IS OF BULK AT MOST 1048576: true; the input reads as it did. -/
def lebShortUptoRow : OpenClaim := { program := "ytdkdifjjpbfohaa", sum := "25a58ebd43a80fa9180f57722cfc2903b6f661ce7fa9b51efe04b4db7a2b99fd", func := "messuage/messuagelaw03.LebShort", spec := "lebShort", apart := false, narrowed := true }
def LebShortUptoSaid : Prop := lebShortUptoRow.holds Try.pinned (OpenSpec.upto lebShortSpec)

/-- 'messuagelaw03.LebReads', WHERE WHAT IT READS IS OF BULK AT MOST 1048576: true; the input reads as it did. -/
def lebReadsUptoRow : OpenClaim := { program := "ytdkdifjjpbfohaa", sum := "25a58ebd43a80fa9180f57722cfc2903b6f661ce7fa9b51efe04b4db7a2b99fd", func := "messuage/messuagelaw03.LebReads", spec := "lebReads", apart := false, narrowed := true }
def LebReadsUptoSaid : Prop := lebReadsUptoRow.holds Try.pinned (OpenSpec.upto lebReadsSpec)

/-- 'messuagelaw03.LebBack', WHERE WHAT IT READS IS OF BULK AT MOST 1048576: true; the input reads as it did. -/
def lebBackUptoRow : OpenClaim := { program := "ytdkdifjjpbfohaa", sum := "25a58ebd43a80fa9180f57722cfc2903b6f661ce7fa9b51efe04b4db7a2b99fd", func := "messuage/messuagelaw03.LebBack", spec := "lebBack", apart := false, narrowed := true }
def LebBackUptoSaid : Prop := lebBackUptoRow.holds Try.pinned (OpenSpec.upto lebBackSpec)

/-- 'messuagelaw03.LebLong', WHERE WHAT IT READS IS OF BULK AT MOST 1048576: true; the input reads as it did. -/
def lebLongUptoRow : OpenClaim := { program := "ytdkdifjjpbfohaa", sum := "25a58ebd43a80fa9180f57722cfc2903b6f661ce7fa9b51efe04b4db7a2b99fd", func := "messuage/messuagelaw03.LebLong", spec := "lebLong", apart := false, narrowed := true }
def LebLongUptoSaid : Prop := lebLongUptoRow.holds Try.pinned (OpenSpec.upto lebLongSpec)

/-- 'messuagelaw14.ApsReads', WHERE WHAT IT READS IS OF BULK AT MOST 1048576: true; the input reads as it did. -/
def apsReadsUptoRow : OpenClaim := { program := "ytdkdifjjpbfohaa", sum := "25a58ebd43a80fa9180f57722cfc2903b6f661ce7fa9b51efe04b4db7a2b99fd", func := "messuage/messuagelaw14.ApsReads", spec := "apsReads", unfollowed := true, recurses := true, apart := false, narrowed := true }
def ApsReadsUptoSaid : Prop := apsReadsUptoRow.holds Try.pinned (OpenSpec.upto apsReadsSpec)

/-- 'messuagelaw14.ApsWrites', WHERE WHAT IT READS IS OF BULK AT MOST 1048576: true; the input reads as it did. -/
def apsWritesUptoRow : OpenClaim := { program := "ytdkdifjjpbfohaa", sum := "25a58ebd43a80fa9180f57722cfc2903b6f661ce7fa9b51efe04b4db7a2b99fd", func := "messuage/messuagelaw14.ApsWrites", spec := "apsWrites", unfollowed := true, recurses := true, apart := false, narrowed := true }
def ApsWritesUptoSaid : Prop := apsWritesUptoRow.holds Try.pinned (OpenSpec.upto apsWritesSpec)

/-- 'messuagelaw14.ApsBack', WHERE WHAT IT READS IS OF BULK AT MOST 1048576: true; the input reads as it did. -/
def apsBackUptoRow : OpenClaim := { program := "ytdkdifjjpbfohaa", sum := "25a58ebd43a80fa9180f57722cfc2903b6f661ce7fa9b51efe04b4db7a2b99fd", func := "messuage/messuagelaw14.ApsBack", spec := "apsBack", unfollowed := true, recurses := true, apart := false, narrowed := true }
def ApsBackUptoSaid : Prop := apsBackUptoRow.holds Try.pinned (OpenSpec.upto apsBackSpec)

/-- 'messuagelaw09.DynNeeds', WHERE WHAT IT READS IS OF BULK AT MOST 1048576: true; the input reads as it did. -/
def dynNeedsUptoRow : OpenClaim := { program := "ytdkdifjjpbfohaa", sum := "25a58ebd43a80fa9180f57722cfc2903b6f661ce7fa9b51efe04b4db7a2b99fd", func := "messuage/messuagelaw09.DynNeeds", spec := "dynNeeds", apart := false, narrowed := true }
def DynNeedsUptoSaid : Prop := dynNeedsUptoRow.holds Try.pinned (OpenSpec.upto dynNeedsSpec)

end Rows
end Go.Proofs.Ytdkdifjjpbfohaa
