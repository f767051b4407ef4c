/- The law: the last test. -/
import Derived.Test.YtdkdifjjpbfohaaDD
namespace Go.Proofs.Ytdkdifjjpbfohaa
open Go Fw
set_option linter.unusedSimpArgs false
set_option linter.unusedVariables false
set_option linter.unusedSectionVars false

/-- A part is there, or nothing is said of it. -/
def Ar (g : Bool) (x y : Int) : Prop := g = true ∨ (g = false ∧ x = 0 ∧ y = 0)
abbrev cs40 (s0 s1 : List UInt8) (on : Option (List (List UInt8))) (b3 b4 b5 : Bool) (q0 q1 i0 i1 i2 i3 i4 i5 i6 i7 : Int) (g0 : Bool) (x0 y0 : Int) (g1 : Bool) (x1 y1 : Int) (g2 : Bool) (x2 y2 : Int) (g3 : Bool) (x3 y3 : Int) (g4 : Bool) (x4 y4 : Int) (pr pk : Bool) (g5 : Bool) (x5 y5 : Int) (g6 : Bool) (x6 y6 : Int) : List Value :=
  [strV s0, strV s1, slV strE on, .bool b3, .bool b4, .bool b5, .bool true, .int .u64 q0, .int .u64 q1, .int .u64 i0, .int .u64 i1, .int .u64 i2, .int .u64 i3, .int .u64 i4, .int .u64 i5, .int .u64 i6, .int .u64 i7, .bool g0, .int .u64 x0, .int .u64 y0, .bool g1, .int .u64 x1, .int .u64 y1, .bool g2, .int .u64 x2, .int .u64 y2, .bool g3, .int .u64 x3, .int .u64 y3, .bool g4, .int .u64 x4, .int .u64 y4, .bool pr, .bool pk, .bool g5, .int .u64 x5, .int .u64 y5, .bool g6, .int .u64 x6, .int .u64 y6]
section
variable {s0 s1 : List UInt8} {on : Option (List (List UInt8))} {b3 b4 b5 : Bool} {q0 q1 i0 i1 i2 i3 i4 i5 i6 i7 : Int} {g0 : Bool} {x0 y0 : Int} {g1 : Bool} {x1 y1 : Int} {g2 : Bool} {x2 y2 : Int} {g3 : Bool} {x3 y3 : Int} {g4 : Bool} {x4 y4 : Int} {pr pk g5 : Bool} {x5 y5 : Int} {g6 : Bool} {x6 y6 : Int}
theorem eqs_z : cellsEq [1, 0, 0] [.bool false, .int .u64 0, .int .u64 0] [.bool false, .int .u64 0, .int .u64 0] = some true := rfl
set_option maxHeartbeats 40000000 in
theorem last_one {env : Env} {X : Entry} (e5 : env 5 = ptrA 1 0) (e8 : env 8 = ptrA 2 0) (A0 : Ar g0 x0 y0) (A1 : Ar g1 x1 y1) (A2 : Ar g2 x2 y2) (A3 : Ar g3 x3 y3) (A4 : Ar g4 x4 y4) (P2 : g2 = false → pr = false) (P4 : g4 = false → pk = false) :
    W TDyn (.reg F_law09_DynNeedsr17) env [X, blk 40 (cs40 s0 s1 on b3 b4 b5 q0 q1 i0 i1 i2 i3 i4 i5 i6 i7 g0 x0 y0 g1 x1 y1 g2 x2 y2 g3 x3 y3 g4 x4 y4 pr pk g5 x5 y5 g6 x6 y6), blk 3 [.bool false, .int .u64 0, .int .u64 0]] fun x e _ => x = .normal ∧ e 2 = .bool true := by
  rcases A0 with rfl | ⟨rfl, rfl, rfl⟩ <;> rcases A1 with rfl | ⟨rfl, rfl, rfl⟩ <;> rcases A2 with rfl | ⟨rfl, rfl, rfl⟩ <;> rcases A3 with rfl | ⟨rfl, rfl, rfl⟩ <;> rcases A4 with rfl | ⟨rfl, rfl, rfl⟩ <;>
    (try (have h2 := P2 rfl; subst h2)) <;> (try (have h4 := P4 rfl; subst h4)) <;>
    simp only [fws, cond_true, cond_false, if_true, if_false, unV, isNil, optI, iV, stepI, evalR, reduceIte, reduceCtorEq, Nat.reduceEqDiff, Int.reduceLT, Int.reduceLE, Int.reduceToNat, Nat.reduceLT, Nat.reduceLeDiff, Int.reduceEq, Int.reduceNeg, IntKind.bits, Nat.reduceAdd, Nat.reduceMul, Nat.reducePow, Int.reducePow, ini, fwh, lk, cellsAt, tagOf, spotOf, rdN, spl, fillL, zr, fwi, F_law09_DynNeedsr0_W, F_law09_DynNeedsr1_W, F_law09_DynNeedsr2_W, F_law09_DynNeedsr3_W, F_law09_DynNeedsr4_W, F_law09_DynNeedsr5_W, F_law09_DynNeedsr6_W, F_law09_DynNeedsr7_W, F_law09_DynNeedsr8_W, F_law09_DynNeedsr8_g3, F_law09_DynNeedsr9_W, F_law09_DynNeedsr9_g4, F_law09_DynNeedsr9_g10, F_law09_DynNeedsr9_g16, F_law09_DynNeedsr10_W, F_law09_DynNeedsr11_W, F_law09_DynNeedsr12_W, F_law09_DynNeedsr14_W, F_law09_DynNeedsr14_g6, F_law09_DynNeedsr15_W, F_law09_DynNeedsr13_W, F_law09_DynNeedsl0_W, F_law09_DynNeedsr16_W, F_law09_DynNeedsr17_W, F_law09_DynNeedsr17_g3, F_law09_DynNeedsr17_g9, F_law09_DynNeedsr17_g13, F_law09_DynNeedsr17_g20, F_law09_DynNeedsr17_g24, F_law09_DynNeedsr17_g29, F_law09_DynNeedsr17_g36, F_law09_DynNeedsr17_g40, F_law09_DynNeedsr17_g47, F_law09_DynNeedsr17_g51, F_law09_DynNeedsr17_g56, F_law09_DynNeedsr17_g63, F_law09_DynNeedsc_W, e5, e8, eqs_z, CC_of dyn_alive] <;> exact ⟨trivial, trivial⟩
end
end Go.Proofs.Ytdkdifjjpbfohaa
