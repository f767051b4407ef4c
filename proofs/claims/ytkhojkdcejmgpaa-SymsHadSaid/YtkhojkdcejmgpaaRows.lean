/-
  No cell of these rows narrows 'for every input' (looked for: loops, veiled, ifaces, maps, wideKeys, modest, calm, conditions, laid).
  DERIVED. THE GIVEN ROWS OF THIS SEAT. 11 by the template 'for every input the law returns true; each argument reads behind the call as it read before'; 0 by the template 'total and deterministic' (their statements: YtkhojkdcejmgpaaTotals.lean).
  GIVEN WITH THE SEED: the statements are not yours to turn. If you find one false, say at which input.
  Laid BY PROGRAM, IN A SANDBOX (cutbox-rows.mjs): the forced cells as the released guide's own fill.sh prints them over the translation 7c39958bc8e8a334… (all of the seat's roots in one cut). By AI agents, Wed Nov 11 2026. No macro, syntax, notation, axiom, sorry.
-/
import Derived.Test.YtkhojkdcejmgpaaChecked
import GoSem.Claim
import GoSem.ClaimJoined
import GoSem.ClaimMapViews
import Derived.JoinedTies
import Derived.KernelRfl
namespace Go.Proofs.Ytkhojkdcejmgpaa
/- THE CELL 'sum', in the pinned program and in every row, IS THE sha256 OF THE DUMP (.gsa) THAT YtkhojkdcejmgpaaProg.lean LOADS. Nothing in Lean hashes anything: it is a label: what it is worth is what the hold of that sum in a sandbox is worth. -/
noncomputable def Try.pinned : Pinned := { name := "ytkhojkdcejmgpaa", sum := "7c39958bc8e8a3345989a3f3a6736038acb079017bc34b5f370daac9f7411028", checked := Try.checked }
namespace Rows
def none {H : Type} : Left H := { results := [], args := [] }

/-- 'messuagelaw09.DynEntries': WHATEVER THE INPUT: true; the input reads as it did. -/
def dynEntriesSpec : ChangeSpec := { name := "dynEntries", fn := fun _ => fun
  | [d] => { results := [.lit (.bool true)], args := [d] }
  | _ => none }
def dynEntriesRow : OpenClaim := { program := "ytkhojkdcejmgpaa", sum := "7c39958bc8e8a3345989a3f3a6736038acb079017bc34b5f370daac9f7411028", func := "messuage/messuagelaw09.DynEntries", spec := "dynEntries", apart := false }
def DynEntriesSaid : Prop := dynEntriesRow.holds Try.pinned (OpenSpec.ofChange dynEntriesSpec)

/-- ITS FALSE NEIGHBOUR: 'it returns false'. Refute it at one input. -/
def dynEntriesWrong : ChangeSpec := { name := "dynEntries", fn := fun _ => fun
  | [d] => { results := [.lit (.bool false)], args := [d] }
  | _ => none }
def DynEntriesWrongFalsely : Prop := dynEntriesRow.holds Try.pinned (OpenSpec.ofChange dynEntriesWrong)

/-- 'messuagelaw10.SymsSums': WHATEVER THE INPUT: true; the input reads as it did. -/
def symsSumsSpec : ChangeSpec := { name := "symsSums", fn := fun _ => fun
  | [d] => { results := [.lit (.bool true)], args := [d] }
  | _ => none }
def symsSumsRow : OpenClaim := { program := "ytkhojkdcejmgpaa", sum := "7c39958bc8e8a3345989a3f3a6736038acb079017bc34b5f370daac9f7411028", func := "messuage/messuagelaw10.SymsSums", spec := "symsSums", apart := false }
def SymsSumsSaid : Prop := symsSumsRow.holds Try.pinned (OpenSpec.ofChange symsSumsSpec)

/-- ITS FALSE NEIGHBOUR: 'it returns false'. Refute it at one input. -/
def symsSumsWrong : ChangeSpec := { name := "symsSums", fn := fun _ => fun
  | [d] => { results := [.lit (.bool false)], args := [d] }
  | _ => none }
def SymsSumsWrongFalsely : Prop := symsSumsRow.holds Try.pinned (OpenSpec.ofChange symsSumsWrong)

/-- 'messuagelaw10.SymsFirst': WHATEVER THE INPUT: true; the input reads as it did. -/
def symsFirstSpec : ChangeSpec := { name := "symsFirst", fn := fun _ => fun
  | [d1, d2] => { results := [.lit (.bool true)], args := [d1, d2] }
  | _ => none }
def symsFirstRow : OpenClaim := { program := "ytkhojkdcejmgpaa", sum := "7c39958bc8e8a3345989a3f3a6736038acb079017bc34b5f370daac9f7411028", func := "messuage/messuagelaw10.SymsFirst", spec := "symsFirst", apart := false }
def SymsFirstSaid : Prop := symsFirstRow.holds Try.pinned (OpenSpec.ofChange symsFirstSpec)

/-- ITS FALSE NEIGHBOUR: 'it returns false'. Refute it at one input. -/
def symsFirstWrong : ChangeSpec := { name := "symsFirst", fn := fun _ => fun
  | [d1, d2] => { results := [.lit (.bool false)], args := [d1, d2] }
  | _ => none }
def SymsFirstWrongFalsely : Prop := symsFirstRow.holds Try.pinned (OpenSpec.ofChange symsFirstWrong)

/-- 'messuagelaw03.LebPuts': WHATEVER THE INPUT: true; the input reads as it did. -/
def lebPutsSpec : ChangeSpec := { name := "lebPuts", fn := fun _ => fun
  | [d1, d2] => { results := [.lit (.bool true)], args := [d1, d2] }
  | _ => none }
def lebPutsRow : OpenClaim := { program := "ytkhojkdcejmgpaa", sum := "7c39958bc8e8a3345989a3f3a6736038acb079017bc34b5f370daac9f7411028", func := "messuage/messuagelaw03.LebPuts", spec := "lebPuts", apart := false }
def LebPutsSaid : Prop := lebPutsRow.holds Try.pinned (OpenSpec.ofChange lebPutsSpec)

/-- ITS FALSE NEIGHBOUR: 'it returns false'. Refute it at one input. -/
def lebPutsWrong : ChangeSpec := { name := "lebPuts", fn := fun _ => fun
  | [d1, d2] => { results := [.lit (.bool false)], args := [d1, d2] }
  | _ => none }
def LebPutsWrongFalsely : Prop := lebPutsRow.holds Try.pinned (OpenSpec.ofChange lebPutsWrong)

/-- 'messuagelaw03.LebShort': WHATEVER THE INPUT: true; the input reads as it did. -/
def lebShortSpec : ChangeSpec := { name := "lebShort", fn := fun _ => fun
  | [d1, d2, d3] => { results := [.lit (.bool true)], args := [d1, d2, d3] }
  | _ => none }
def lebShortRow : OpenClaim := { program := "ytkhojkdcejmgpaa", sum := "7c39958bc8e8a3345989a3f3a6736038acb079017bc34b5f370daac9f7411028", func := "messuage/messuagelaw03.LebShort", spec := "lebShort", apart := false }
def LebShortSaid : Prop := lebShortRow.holds Try.pinned (OpenSpec.ofChange lebShortSpec)

/-- ITS FALSE NEIGHBOUR: 'it returns false'. Refute it at one input. -/
def lebShortWrong : ChangeSpec := { name := "lebShort", fn := fun _ => fun
  | [d1, d2, d3] => { results := [.lit (.bool false)], args := [d1, d2, d3] }
  | _ => none }
def LebShortWrongFalsely : Prop := lebShortRow.holds Try.pinned (OpenSpec.ofChange lebShortWrong)

/-- 'messuagelaw10.SymsFinds': WHATEVER THE INPUT: true; the input reads as it did. -/
def symsFindsSpec : ChangeSpec := { name := "symsFinds", fn := fun _ => fun
  | [d1, d2] => { results := [.lit (.bool true)], args := [d1, d2] }
  | _ => none }
def symsFindsRow : OpenClaim := { program := "ytkhojkdcejmgpaa", sum := "7c39958bc8e8a3345989a3f3a6736038acb079017bc34b5f370daac9f7411028", func := "messuage/messuagelaw10.SymsFinds", spec := "symsFinds", apart := false }
def SymsFindsSaid : Prop := symsFindsRow.holds Try.pinned (OpenSpec.ofChange symsFindsSpec)

/-- ITS FALSE NEIGHBOUR: 'it returns false'. Refute it at one input. -/
def symsFindsWrong : ChangeSpec := { name := "symsFinds", fn := fun _ => fun
  | [d1, d2] => { results := [.lit (.bool false)], args := [d1, d2] }
  | _ => none }
def SymsFindsWrongFalsely : Prop := symsFindsRow.holds Try.pinned (OpenSpec.ofChange symsFindsWrong)

/-- 'messuagelaw10.SymsHad': WHATEVER THE INPUT: true; the input reads as it did. -/
def symsHadSpec : ChangeSpec := { name := "symsHad", fn := fun _ => fun
  | [d1, d2] => { results := [.lit (.bool true)], args := [d1, d2] }
  | _ => none }
def symsHadRow : OpenClaim := { program := "ytkhojkdcejmgpaa", sum := "7c39958bc8e8a3345989a3f3a6736038acb079017bc34b5f370daac9f7411028", func := "messuage/messuagelaw10.SymsHad", spec := "symsHad", apart := false }
def SymsHadSaid : Prop := symsHadRow.holds Try.pinned (OpenSpec.ofChange symsHadSpec)

/-- ITS FALSE NEIGHBOUR: 'it returns false'. Refute it at one input. -/
def symsHadWrong : ChangeSpec := { name := "symsHad", fn := fun _ => fun
  | [d1, d2] => { results := [.lit (.bool false)], args := [d1, d2] }
  | _ => none }
def SymsHadWrongFalsely : Prop := symsHadRow.holds Try.pinned (OpenSpec.ofChange symsHadWrong)

/-- 'messuagelaw03.LebReads': WHATEVER THE INPUT: true; the input reads as it did. -/
def lebReadsSpec : ChangeSpec := { name := "lebReads", fn := fun _ => fun
  | [d1, d2] => { results := [.lit (.bool true)], args := [d1, d2] }
  | _ => none }
def lebReadsRow : OpenClaim := { program := "ytkhojkdcejmgpaa", sum := "7c39958bc8e8a3345989a3f3a6736038acb079017bc34b5f370daac9f7411028", func := "messuage/messuagelaw03.LebReads", spec := "lebReads", apart := false }
def LebReadsSaid : Prop := lebReadsRow.holds Try.pinned (OpenSpec.ofChange lebReadsSpec)

/-- ITS FALSE NEIGHBOUR: 'it returns false'. Refute it at one input. -/
def lebReadsWrong : ChangeSpec := { name := "lebReads", fn := fun _ => fun
  | [d1, d2] => { results := [.lit (.bool false)], args := [d1, d2] }
  | _ => none }
def LebReadsWrongFalsely : Prop := lebReadsRow.holds Try.pinned (OpenSpec.ofChange lebReadsWrong)

/-- 'messuagelaw03.LebBack': WHATEVER THE INPUT: true; the input reads as it did. -/
def lebBackSpec : ChangeSpec := { name := "lebBack", fn := fun _ => fun
  | [d] => { results := [.lit (.bool true)], args := [d] }
  | _ => none }
def lebBackRow : OpenClaim := { program := "ytkhojkdcejmgpaa", sum := "7c39958bc8e8a3345989a3f3a6736038acb079017bc34b5f370daac9f7411028", func := "messuage/messuagelaw03.LebBack", spec := "lebBack", apart := false }
def LebBackSaid : Prop := lebBackRow.holds Try.pinned (OpenSpec.ofChange lebBackSpec)

/-- ITS FALSE NEIGHBOUR: 'it returns false'. Refute it at one input. -/
def lebBackWrong : ChangeSpec := { name := "lebBack", fn := fun _ => fun
  | [d] => { results := [.lit (.bool false)], args := [d] }
  | _ => none }
def LebBackWrongFalsely : Prop := lebBackRow.holds Try.pinned (OpenSpec.ofChange lebBackWrong)

/-- 'messuagelaw03.LebLong': WHATEVER THE INPUT: true; the input reads as it did. -/
def lebLongSpec : ChangeSpec := { name := "lebLong", fn := fun _ => fun
  | [d1, d2] => { results := [.lit (.bool true)], args := [d1, d2] }
  | _ => none }
def lebLongRow : OpenClaim := { program := "ytkhojkdcejmgpaa", sum := "7c39958bc8e8a3345989a3f3a6736038acb079017bc34b5f370daac9f7411028", func := "messuage/messuagelaw03.LebLong", spec := "lebLong", apart := false }
def LebLongSaid : Prop := lebLongRow.holds Try.pinned (OpenSpec.ofChange lebLongSpec)

/-- ITS FALSE NEIGHBOUR: 'it returns false'. Refute it at one input. -/
def lebLongWrong : ChangeSpec := { name := "lebLong", fn := fun _ => fun
  | [d1, d2] => { results := [.lit (.bool false)], args := [d1, d2] }
  | _ => none }
def LebLongWrongFalsely : Prop := lebLongRow.holds Try.pinned (OpenSpec.ofChange lebLongWrong)

/-- 'messuagelaw09.DynNeeds': WHATEVER THE INPUT: true; the input reads as it did. -/
def dynNeedsSpec : ChangeSpec := { name := "dynNeeds", fn := fun _ => fun
  | [d] => { results := [.lit (.bool true)], args := [d] }
  | _ => none }
def dynNeedsRow : OpenClaim := { program := "ytkhojkdcejmgpaa", sum := "7c39958bc8e8a3345989a3f3a6736038acb079017bc34b5f370daac9f7411028", func := "messuage/messuagelaw09.DynNeeds", spec := "dynNeeds", apart := false }
def DynNeedsSaid : Prop := dynNeedsRow.holds Try.pinned (OpenSpec.ofChange dynNeedsSpec)

/-- ITS FALSE NEIGHBOUR: 'it returns false'. Refute it at one input. -/
def dynNeedsWrong : ChangeSpec := { name := "dynNeeds", fn := fun _ => fun
  | [d] => { results := [.lit (.bool false)], args := [d] }
  | _ => none }
def DynNeedsWrongFalsely : Prop := dynNeedsRow.holds Try.pinned (OpenSpec.ofChange dynNeedsWrong)

/- THE SECOND FORM. 'bulk': how many values and letters a reading holds, each counted each time it is reached (what is shared counts as often as it is met; a slice's spare places count too). A statement '..UptoSaid' is the law's where the arguments, and the package variables that the reading takes, are together of bulk at most 1048576: NARROWER than '..Said'. Prove '..Said' where nothing that the law and all that it calls make is longer than what came in: it says more and counts as full. Else prove '..UptoSaid'. A law counts once. -/
mutual
def uptoBulk {H : Type} : DataW H → Nat
  | .lit (.string bytes) => bytes.length + 1
  | .lit _ => 1
  | .nil => 1
  | .ptr d => uptoBulk d + 1
  | .slice elems spare => uptoBulkAll elems + uptoBulkAll spare + 1
  | .agg parts => uptoBulkAll parts + 1
  | .iface _ d => uptoBulk d + 1
  | .map entries => uptoBulkEntries entries + 1
  | .held _ => 1
def uptoBulkAll {H : Type} : List (DataW H) → Nat
  | [] => 0
  | d :: r => uptoBulk d + uptoBulkAll r
def uptoBulkEntries {H : Type} : List (Lit × DataW H) → Nat
  | [] => 0
  | x :: r => uptoBulkEntry x + uptoBulkEntries r
def uptoBulkEntry {H : Type} : Lit × DataW H → Nat
  | (.string bytes, d) => bytes.length + uptoBulk d + 1
  | (_, d) => uptoBulk d + 1
 end
def uptoSmall : (H : Type) → List (DataW H) → Bool := fun _ ds => decide (uptoBulkAll ds ≤ 1048576)
def OpenSpec.upto (s : _root_.Go.ChangeSpec) : _root_.Go.OpenSpec := { _root_.Go.OpenSpec.ofChange s with cond := some uptoSmall }

/-- 'messuagelaw09.DynEntries', WHERE WHAT IT READS IS OF BULK AT MOST 1048576: true; the input reads as it did. -/
def dynEntriesUptoRow : OpenClaim := { program := "ytkhojkdcejmgpaa", sum := "7c39958bc8e8a3345989a3f3a6736038acb079017bc34b5f370daac9f7411028", func := "messuage/messuagelaw09.DynEntries", spec := "dynEntries", apart := false, narrowed := true }
def DynEntriesUptoSaid : Prop := dynEntriesUptoRow.holds Try.pinned (OpenSpec.upto dynEntriesSpec)

/-- 'messuagelaw10.SymsSums', WHERE WHAT IT READS IS OF BULK AT MOST 1048576: true; the input reads as it did. -/
def symsSumsUptoRow : OpenClaim := { program := "ytkhojkdcejmgpaa", sum := "7c39958bc8e8a3345989a3f3a6736038acb079017bc34b5f370daac9f7411028", func := "messuage/messuagelaw10.SymsSums", spec := "symsSums", apart := false, narrowed := true }
def SymsSumsUptoSaid : Prop := symsSumsUptoRow.holds Try.pinned (OpenSpec.upto symsSumsSpec)

/-- 'messuagelaw10.SymsFirst', WHERE WHAT IT READS IS OF BULK AT MOST 1048576: true; the input reads as it did. -/
def symsFirstUptoRow : OpenClaim := { program := "ytkhojkdcejmgpaa", sum := "7c39958bc8e8a3345989a3f3a6736038acb079017bc34b5f370daac9f7411028", func := "messuage/messuagelaw10.SymsFirst", spec := "symsFirst", apart := false, narrowed := true }
def SymsFirstUptoSaid : Prop := symsFirstUptoRow.holds Try.pinned (OpenSpec.upto symsFirstSpec)

/-- 'messuagelaw03.LebPuts', WHERE WHAT IT READS IS OF BULK AT MOST 1048576: true; the input reads as it did. -/
def lebPutsUptoRow : OpenClaim := { program := "ytkhojkdcejmgpaa", sum := "7c39958bc8e8a3345989a3f3a6736038acb079017bc34b5f370daac9f7411028", func := "messuage/messuagelaw03.LebPuts", spec := "lebPuts", apart := false, narrowed := true }
def LebPutsUptoSaid : Prop := lebPutsUptoRow.holds Try.pinned (OpenSpec.upto lebPutsSpec)

/-- 'messuagelaw03.LebShort', WHERE WHAT IT READS IS OF BULK AT MOST 1048576: true; the input reads as it did. -/
def lebShortUptoRow : OpenClaim := { program := "ytkhojkdcejmgpaa", sum := "7c39958bc8e8a3345989a3f3a6736038acb079017bc34b5f370daac9f7411028", func := "messuage/messuagelaw03.LebShort", spec := "lebShort", apart := false, narrowed := true }
def LebShortUptoSaid : Prop := lebShortUptoRow.holds Try.pinned (OpenSpec.upto lebShortSpec)

/-- 'messuagelaw10.SymsFinds', WHERE WHAT IT READS IS OF BULK AT MOST 1048576: true; the input reads as it did. -/
def symsFindsUptoRow : OpenClaim := { program := "ytkhojkdcejmgpaa", sum := "7c39958bc8e8a3345989a3f3a6736038acb079017bc34b5f370daac9f7411028", func := "messuage/messuagelaw10.SymsFinds", spec := "symsFinds", apart := false, narrowed := true }
def SymsFindsUptoSaid : Prop := symsFindsUptoRow.holds Try.pinned (OpenSpec.upto symsFindsSpec)

/-- 'messuagelaw10.SymsHad', WHERE WHAT IT READS IS OF BULK AT MOST 1048576: true; the input reads as it did. -/
def symsHadUptoRow : OpenClaim := { program := "ytkhojkdcejmgpaa", sum := "7c39958bc8e8a3345989a3f3a6736038acb079017bc34b5f370daac9f7411028", func := "messuage/messuagelaw10.SymsHad", spec := "symsHad", apart := false, narrowed := true }
def SymsHadUptoSaid : Prop := symsHadUptoRow.holds Try.pinned (OpenSpec.upto symsHadSpec)

/-- 'messuagelaw03.LebReads', WHERE WHAT IT READS IS OF BULK AT MOST 1048576: true; the input reads as it did. -/
def lebReadsUptoRow : OpenClaim := { program := "ytkhojkdcejmgpaa", sum := "7c39958bc8e8a3345989a3f3a6736038acb079017bc34b5f370daac9f7411028", func := "messuage/messuagelaw03.LebReads", spec := "lebReads", apart := false, narrowed := true }
def LebReadsUptoSaid : Prop := lebReadsUptoRow.holds Try.pinned (OpenSpec.upto lebReadsSpec)

/-- 'messuagelaw03.LebBack', WHERE WHAT IT READS IS OF BULK AT MOST 1048576: true; the input reads as it did. -/
def lebBackUptoRow : OpenClaim := { program := "ytkhojkdcejmgpaa", sum := "7c39958bc8e8a3345989a3f3a6736038acb079017bc34b5f370daac9f7411028", func := "messuage/messuagelaw03.LebBack", spec := "lebBack", apart := false, narrowed := true }
def LebBackUptoSaid : Prop := lebBackUptoRow.holds Try.pinned (OpenSpec.upto lebBackSpec)

/-- 'messuagelaw03.LebLong', WHERE WHAT IT READS IS OF BULK AT MOST 1048576: true; the input reads as it did. -/
def lebLongUptoRow : OpenClaim := { program := "ytkhojkdcejmgpaa", sum := "7c39958bc8e8a3345989a3f3a6736038acb079017bc34b5f370daac9f7411028", func := "messuage/messuagelaw03.LebLong", spec := "lebLong", apart := false, narrowed := true }
def LebLongUptoSaid : Prop := lebLongUptoRow.holds Try.pinned (OpenSpec.upto lebLongSpec)

/-- 'messuagelaw09.DynNeeds', WHERE WHAT IT READS IS OF BULK AT MOST 1048576: true; the input reads as it did. -/
def dynNeedsUptoRow : OpenClaim := { program := "ytkhojkdcejmgpaa", sum := "7c39958bc8e8a3345989a3f3a6736038acb079017bc34b5f370daac9f7411028", func := "messuage/messuagelaw09.DynNeeds", spec := "dynNeeds", apart := false, narrowed := true }
def DynNeedsUptoSaid : Prop := dynNeedsUptoRow.holds Try.pinned (OpenSpec.upto dynNeedsSpec)

end Rows
end Go.Proofs.Ytkhojkdcejmgpaa
