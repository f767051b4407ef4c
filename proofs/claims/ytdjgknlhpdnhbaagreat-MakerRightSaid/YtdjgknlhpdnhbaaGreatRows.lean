/-
  No cell of these rows narrows 'for every input' (looked for: loops, veiled, ifaces, maps, wideKeys, modest, calm, conditions, laid).
  DERIVED. THE GIVEN ROWS OF THIS SEAT. 4 by the template 'for every input the law returns true; each argument reads behind the call as it read before'; 0 by the template 'total and deterministic' (their statements: YtdjgknlhpdnhbaaGreatTotals.lean).
  GIVEN WITH THE SEED: the statements are not yours to turn. If you find one false, say at which input.
  Laid BY PROGRAM, IN A SANDBOX (cutbox-rows.mjs): the forced cells as the released guide's own fill.sh prints them over the translation 680a7ed40cec7405… (all of the seat's roots in one cut). By AI agents, Wed Nov 11 2026. No macro, syntax, notation, axiom, sorry.
-/
import Derived.Test.YtdjgknlhpdnhbaaGreatChecked
import GoSem.Claim
import GoSem.ClaimJoined
import GoSem.ClaimMapViews
import Derived.JoinedTies
import Derived.KernelRfl
namespace Go.Proofs.YtdjgknlhpdnhbaaGreat
/- THE CELL 'sum', in the pinned program and in every row, IS THE sha256 OF THE DUMP (.gsa) THAT YtdjgknlhpdnhbaaGreatProg.lean LOADS. Nothing in Lean hashes anything: it is a label: what it is worth is what the hold of that sum in a sandbox is worth. -/
noncomputable def Tryz.pinned : Pinned := { name := "ytdjgknlhpdnhbaagreat", sum := "680a7ed40cec7405b78beb596d7cd8df23dfdec8deb175b4d9edcce08f74c7d8", checked := Tryz.checked }
namespace Rows
def none {H : Type} : Left H := { results := [], args := [] }

/-- 'messuagelaw17.MakerRight': WHATEVER THE INPUT: true; the input reads as it did. -/
def makerRightSpec : ChangeSpec := { name := "makerRight", fn := fun _ => fun
  | [d] => { results := [.lit (.bool true)], args := [d] }
  | _ => none }
def makerRightRow : OpenClaim := { program := "ytdjgknlhpdnhbaagreat", sum := "680a7ed40cec7405b78beb596d7cd8df23dfdec8deb175b4d9edcce08f74c7d8", func := "messuage/messuagelaw17.MakerRight", spec := "makerRight", unfollowed := true, recurses := true, apart := false }
def MakerRightSaid : Prop := makerRightRow.holds Tryz.pinned (OpenSpec.ofChange makerRightSpec)

/-- ITS FALSE NEIGHBOUR: 'it returns false'. Refute it at one input. -/
def makerRightWrong : ChangeSpec := { name := "makerRight", fn := fun _ => fun
  | [d] => { results := [.lit (.bool false)], args := [d] }
  | _ => none }
def MakerRightWrongFalsely : Prop := makerRightRow.holds Tryz.pinned (OpenSpec.ofChange makerRightWrong)

/-- 'messuagelaw17.MakerMakes': WHATEVER THE INPUT: true; the input reads as it did. -/
def makerMakesSpec : ChangeSpec := { name := "makerMakes", fn := fun _ => fun
  | [d] => { results := [.lit (.bool true)], args := [d] }
  | _ => none }
def makerMakesRow : OpenClaim := { program := "ytdjgknlhpdnhbaagreat", sum := "680a7ed40cec7405b78beb596d7cd8df23dfdec8deb175b4d9edcce08f74c7d8", func := "messuage/messuagelaw17.MakerMakes", spec := "makerMakes", unfollowed := true, recurses := true, apart := false }
def MakerMakesSaid : Prop := makerMakesRow.holds Tryz.pinned (OpenSpec.ofChange makerMakesSpec)

/-- ITS FALSE NEIGHBOUR: 'it returns false'. Refute it at one input. -/
def makerMakesWrong : ChangeSpec := { name := "makerMakes", fn := fun _ => fun
  | [d] => { results := [.lit (.bool false)], args := [d] }
  | _ => none }
def MakerMakesWrongFalsely : Prop := makerMakesRow.holds Tryz.pinned (OpenSpec.ofChange makerMakesWrong)

/-- 'messuagelaw17.MakerOwn': WHATEVER THE INPUT: true; the input reads as it did. -/
def makerOwnSpec : ChangeSpec := { name := "makerOwn", fn := fun _ => fun
  | [d1, d2] => { results := [.lit (.bool true)], args := [d1, d2] }
  | _ => none }
def makerOwnRow : OpenClaim := { program := "ytdjgknlhpdnhbaagreat", sum := "680a7ed40cec7405b78beb596d7cd8df23dfdec8deb175b4d9edcce08f74c7d8", func := "messuage/messuagelaw17.MakerOwn", spec := "makerOwn", unfollowed := true, recurses := true, apart := false }
def MakerOwnSaid : Prop := makerOwnRow.holds Tryz.pinned (OpenSpec.ofChange makerOwnSpec)

/-- ITS FALSE NEIGHBOUR: 'it returns false'. Refute it at one input. -/
def makerOwnWrong : ChangeSpec := { name := "makerOwn", fn := fun _ => fun
  | [d1, d2] => { results := [.lit (.bool false)], args := [d1, d2] }
  | _ => none }
def MakerOwnWrongFalsely : Prop := makerOwnRow.holds Tryz.pinned (OpenSpec.ofChange makerOwnWrong)

/-- 'messuagelaw17.MakerTells': WHATEVER THE INPUT: true; the input reads as it did. -/
def makerTellsSpec : ChangeSpec := { name := "makerTells", fn := fun _ => fun
  | [d] => { results := [.lit (.bool true)], args := [d] }
  | _ => none }
def makerTellsRow : OpenClaim := { program := "ytdjgknlhpdnhbaagreat", sum := "680a7ed40cec7405b78beb596d7cd8df23dfdec8deb175b4d9edcce08f74c7d8", func := "messuage/messuagelaw17.MakerTells", spec := "makerTells", unfollowed := true, recurses := true, apart := false }
def MakerTellsSaid : Prop := makerTellsRow.holds Tryz.pinned (OpenSpec.ofChange makerTellsSpec)

/-- ITS FALSE NEIGHBOUR: 'it returns false'. Refute it at one input. -/
def makerTellsWrong : ChangeSpec := { name := "makerTells", fn := fun _ => fun
  | [d] => { results := [.lit (.bool false)], args := [d] }
  | _ => none }
def MakerTellsWrongFalsely : Prop := makerTellsRow.holds Tryz.pinned (OpenSpec.ofChange makerTellsWrong)

/- THE SECOND FORM. 'bulk': how many values and letters a reading holds, each counted each time it is reached (what is shared counts as often as it is met; a slice's spare places count too). A statement '..UptoSaid' is the law's where the arguments, and the package variables that the reading takes, are together of bulk at most 1048576: NARROWER than '..Said'. Prove '..Said' where nothing that the law and all that it calls make is longer than what came in: it says more and counts as full. Else prove '..UptoSaid'. A law counts once. -/
mutual
def uptoBulk {H : Type} : DataW H → Nat
  | .lit (.string bytes) => bytes.length + 1
  | .lit _ => 1
  | .nil => 1
  | .ptr d => uptoBulk d + 1
  | .slice elems spare => uptoBulkAll elems + uptoBulkAll spare + 1
  | .agg parts => uptoBulkAll parts + 1
  | .iface _ d => uptoBulk d + 1
  | .map entries => uptoBulkEntries entries + 1
  | .held _ => 1
def uptoBulkAll {H : Type} : List (DataW H) → Nat
  | [] => 0
  | d :: r => uptoBulk d + uptoBulkAll r
def uptoBulkEntries {H : Type} : List (Lit × DataW H) → Nat
  | [] => 0
  | x :: r => uptoBulkEntry x + uptoBulkEntries r
def uptoBulkEntry {H : Type} : Lit × DataW H → Nat
  | (.string bytes, d) => bytes.length + uptoBulk d + 1
  | (_, d) => uptoBulk d + 1
 end
def uptoSmall : (H : Type) → List (DataW H) → Bool := fun _ ds => decide (uptoBulkAll ds ≤ 1048576)
def OpenSpec.upto (s : _root_.Go.ChangeSpec) : _root_.Go.OpenSpec := { _root_.Go.OpenSpec.ofChange s with cond := some uptoSmall }

/-- 'messuagelaw17.MakerRight', WHERE WHAT IT READS IS OF BULK AT MOST 1048576: true; the input reads as it did. -/
def makerRightUptoRow : OpenClaim := { program := "ytdjgknlhpdnhbaagreat", sum := "680a7ed40cec7405b78beb596d7cd8df23dfdec8deb175b4d9edcce08f74c7d8", func := "messuage/messuagelaw17.MakerRight", spec := "makerRight", unfollowed := true, recurses := true, apart := false, narrowed := true }
def MakerRightUptoSaid : Prop := makerRightUptoRow.holds Tryz.pinned (OpenSpec.upto makerRightSpec)

/-- 'messuagelaw17.MakerMakes', WHERE WHAT IT READS IS OF BULK AT MOST 1048576: true; the input reads as it did. -/
def makerMakesUptoRow : OpenClaim := { program := "ytdjgknlhpdnhbaagreat", sum := "680a7ed40cec7405b78beb596d7cd8df23dfdec8deb175b4d9edcce08f74c7d8", func := "messuage/messuagelaw17.MakerMakes", spec := "makerMakes", unfollowed := true, recurses := true, apart := false, narrowed := true }
def MakerMakesUptoSaid : Prop := makerMakesUptoRow.holds Tryz.pinned (OpenSpec.upto makerMakesSpec)

/-- 'messuagelaw17.MakerOwn', WHERE WHAT IT READS IS OF BULK AT MOST 1048576: true; the input reads as it did. -/
def makerOwnUptoRow : OpenClaim := { program := "ytdjgknlhpdnhbaagreat", sum := "680a7ed40cec7405b78beb596d7cd8df23dfdec8deb175b4d9edcce08f74c7d8", func := "messuage/messuagelaw17.MakerOwn", spec := "makerOwn", unfollowed := true, recurses := true, apart := false, narrowed := true }
def MakerOwnUptoSaid : Prop := makerOwnUptoRow.holds Tryz.pinned (OpenSpec.upto makerOwnSpec)

/-- 'messuagelaw17.MakerTells', WHERE WHAT IT READS IS OF BULK AT MOST 1048576: true; the input reads as it did. -/
def makerTellsUptoRow : OpenClaim := { program := "ytdjgknlhpdnhbaagreat", sum := "680a7ed40cec7405b78beb596d7cd8df23dfdec8deb175b4d9edcce08f74c7d8", func := "messuage/messuagelaw17.MakerTells", spec := "makerTells", unfollowed := true, recurses := true, apart := false, narrowed := true }
def MakerTellsUptoSaid : Prop := makerTellsUptoRow.holds Tryz.pinned (OpenSpec.upto makerTellsSpec)

end Rows
end Go.Proofs.YtdjgknlhpdnhbaaGreat
