/- Groups of relocations: a list, read. -/
import Derived.Test.YtdkdifjjpbfohaaApsE
namespace Go.Proofs.Ytdkdifjjpbfohaa
open Go Fw
set_option linter.unusedSimpArgs false
set_option linter.unusedVariables false
set_option linter.unusedSectionVars false

/-- The groups of a list, until there are so many. -/
def allS (rela : Bool) (many : Nat) : Nat → GS → Option GS
  | 0, g => some g
  | n + 1, g => if g.out.length < many then (grpS rela ((many : Int) - g.out.length) g).bind (allS rela many n) else some g
/-- What a list tells. -/
def apsD (rela : Bool) (b : List UInt8) : Option (List S_api_Rel) :=
  if b.length < 4 ∨ b.take 4 ≠ [65, 80, 83, 50] then none else
  let x := nums (b.drop 4).length (b.drop 4)
  let m := tk ⟨x.1, false⟩
  let a := tk m.1
  if a.1.bad = true ∨ m.2 < 0 ∨ 512 < m.2 then none else
  (allS rela m.2.toNat 513 ⟨a.1, a.2, 0, []⟩).bind fun g => if g.s.N = [] ∧ x.2 = true then some g.out else none
theorem grpS_len {rela : Bool} {left : Int} {g g' : GS} (h : grpS rela left g = some g') : g.out.length < g'.out.length ∧ (g'.out.length : Int) ≤ g.out.length + left ∧ g'.s.bad = false := by
  have aux : ∀ G : GS, (if G.s.bad then none else some G) = some g' → G = g' ∧ g'.s.bad = false := fun G h => by
    cases hb : G.s.bad
    · rw [hb] at h
      have := Option.some.inj h
      subst this
      exact ⟨rfl, hb⟩
    · rw [hb] at h; cases h
  by_cases hb : badG (tk (tk g.s).1).1 (tk g.s).2 left (tk (tk g.s).1).2 rela
  · have : grpS rela left g = none := if_pos hb
    rw [this] at h; cases h
  · have h : (if _ then none else _) = some g' := h
    rw [if_neg hb] at h
    obtain ⟨e1, e2⟩ := aux _ h
    unfold badG at hb
    refine ⟨?_, ?_, e2⟩
    · rw [← e1, rowsS_len]
      show g.out.length < g.out.length + _
      omega
    · rw [← e1, rowsS_len]
      show ((g.out.length + _ : Nat) : Int) ≤ _
      omega
section
variable {T : Tab} (hg0 : T 39 = some F_leb_Reader_groups) (hS : T 19 = some F_leb_Reader_S) (hF : T 22 = some F_leb_Reader_Fail) (h1 : T 60 = some F_aps_state_one) (h2 : T 40 = some F_aps_state_group) {l : List UInt8} (hl : l.length < 9223372036854775000) {fl rela : Bool}
include hg0 hS hF h1 h2 hl
theorem loop_aps_Decode {many : Nat} (hm : many ≤ 512) : ∀ (n : Nat) (H : Heap) (g : GS) (u : Value) (env : Env), many < g.out.length + n → g.out.length ≤ many → g.s.bad = false → Stt H l fl rela g u → env 6 = .pointer (some ⟨1, 0, none⟩) → env 7 = .int .i64 many →
    W T (.loop F_aps_Decodel0) env H fun x e h => match allS rela many n g with
      | none => x = .ret ∧ e 4 = .slice none 0 0 ∧ e 5 = .int .i64 140
      | some g' => x = .exit 0 ∧ e 6 = .pointer (some ⟨1, 0, none⟩) ∧ g'.s.bad = false ∧ ∃ u', Stt h l fl rela g' u' := by
  intro n
  induction n with
  | zero => intro H g u env hn ho hb t e6 e7; omega
  | succ n ih =>
    intro H g u env hn ho hb t e6 e7
    obtain ⟨x0, x1, x2, x3, x4⟩ := t.cells
    have hlen := t.own.len
    rw [w_loop, allS]
    by_cases q : g.out.length < many
    · have q' : ((g.out.length : Int) < many) := by omega
      have w : IntKind.i64.wrap ((many : Int) - g.out.length) = (many : Int) - g.out.length := wrapI64 (by omega) (by omega)
      have c := ev_group hg0 hS hF h1 h2 hl t (left := (many : Int) - g.out.length) (by omega) (by omega)
      rw [if_pos q]
      simp only [fws, cond_true, cond_false, if_true, if_false, unV, isNil, optI, iV, stepI, evalR, reduceIte, reduceCtorEq, Nat.reduceEqDiff, Int.reduceLT, Int.reduceLE, Int.reduceToNat, Nat.reduceLT, Nat.reduceLeDiff, Int.reduceEq, Int.reduceNeg, IntKind.bits, Nat.reduceAdd, Nat.reduceMul, Nat.reducePow, Int.reducePow, ini, fwi, F_aps_Decoder0_W, F_aps_Decoder1_W, F_aps_Decoder1_g3, F_aps_Decoder2_W, F_aps_Decoder3_W, F_aps_Decoder4_W, F_aps_Decoder5_W, F_aps_Decoder6_W, F_aps_Decoder6_g6, F_aps_Decoder6_g10, F_aps_Decoder7_W, F_aps_Decoder8_W, F_aps_Decoder9_W, F_aps_Decoder10_W, F_aps_Decodel0_W, F_aps_Decoder11_W, F_aps_Decoder12_W, F_aps_Decoder13_W, F_aps_Decodec_W, F_aps_Decoder0_W, F_aps_Decoder1_W, F_aps_Decoder1_g3, F_aps_Decoder2_W, F_aps_Decoder3_W, F_aps_Decoder4_W, F_aps_Decoder5_W, F_aps_Decoder6_W, F_aps_Decoder6_g6, F_aps_Decoder6_g10, F_aps_Decoder7_W, F_aps_Decoder8_W, F_aps_Decoder9_W, F_aps_Decoder10_W, F_aps_Decodel0_W, F_aps_Decoder11_W, F_aps_Decoder12_W, F_aps_Decoder13_W, F_aps_Decodec_W, e6, e7, x4, hlen, q', w]
      refine c.mono fun v h hv => ?_
      cases hg : grpS rela ((many : Int) - g.out.length) g with
      | none =>
        rw [hg] at hv
        subst hv
        simp only [fws, cond_true, cond_false, if_true, if_false, unV, isNil, optI, iV, stepI, evalR, reduceIte, reduceCtorEq, Nat.reduceEqDiff, Int.reduceLT, Int.reduceLE, Int.reduceToNat, Nat.reduceLT, Nat.reduceLeDiff, Int.reduceEq, Int.reduceNeg, IntKind.bits, Nat.reduceAdd, Nat.reduceMul, Nat.reducePow, Int.reducePow, ini, fwi, F_aps_Decoder0_W, F_aps_Decoder1_W, F_aps_Decoder1_g3, F_aps_Decoder2_W, F_aps_Decoder3_W, F_aps_Decoder4_W, F_aps_Decoder5_W, F_aps_Decoder6_W, F_aps_Decoder6_g6, F_aps_Decoder6_g10, F_aps_Decoder7_W, F_aps_Decoder8_W, F_aps_Decoder9_W, F_aps_Decoder10_W, F_aps_Decodel0_W, F_aps_Decoder11_W, F_aps_Decoder12_W, F_aps_Decoder13_W, F_aps_Decodec_W, F_aps_Decoder0_W, F_aps_Decoder1_W, F_aps_Decoder1_g3, F_aps_Decoder2_W, F_aps_Decoder3_W, F_aps_Decoder4_W, F_aps_Decoder5_W, F_aps_Decoder6_W, F_aps_Decoder6_g6, F_aps_Decoder6_g10, F_aps_Decoder7_W, F_aps_Decoder8_W, F_aps_Decoder9_W, F_aps_Decoder10_W, F_aps_Decodel0_W, F_aps_Decoder11_W, F_aps_Decoder12_W, F_aps_Decoder13_W, F_aps_Decodec_W, e6, e7, Option.bind_none]
        exact ⟨trivial, trivial, trivial⟩
      | some g' =>
        rw [hg] at hv
        obtain ⟨rfl, u', t'⟩ := hv
        obtain ⟨k1, k2, k3⟩ := grpS_len hg
        simp only [fws, cond_true, cond_false, if_true, if_false, unV, isNil, optI, iV, stepI, evalR, reduceIte, reduceCtorEq, Nat.reduceEqDiff, Int.reduceLT, Int.reduceLE, Int.reduceToNat, Nat.reduceLT, Nat.reduceLeDiff, Int.reduceEq, Int.reduceNeg, IntKind.bits, Nat.reduceAdd, Nat.reduceMul, Nat.reducePow, Int.reducePow, ini, fwi, F_aps_Decoder0_W, F_aps_Decoder1_W, F_aps_Decoder1_g3, F_aps_Decoder2_W, F_aps_Decoder3_W, F_aps_Decoder4_W, F_aps_Decoder5_W, F_aps_Decoder6_W, F_aps_Decoder6_g6, F_aps_Decoder6_g10, F_aps_Decoder7_W, F_aps_Decoder8_W, F_aps_Decoder9_W, F_aps_Decoder10_W, F_aps_Decodel0_W, F_aps_Decoder11_W, F_aps_Decoder12_W, F_aps_Decoder13_W, F_aps_Decodec_W, F_aps_Decoder0_W, F_aps_Decoder1_W, F_aps_Decoder1_g3, F_aps_Decoder2_W, F_aps_Decoder3_W, F_aps_Decoder4_W, F_aps_Decoder5_W, F_aps_Decoder6_W, F_aps_Decoder6_g6, F_aps_Decoder6_g10, F_aps_Decoder7_W, F_aps_Decoder8_W, F_aps_Decoder9_W, F_aps_Decoder10_W, F_aps_Decodel0_W, F_aps_Decoder11_W, F_aps_Decoder12_W, F_aps_Decoder13_W, F_aps_Decodec_W, e6, e7, Option.bind_some]
        refine ih h g' u' _ (by omega) (by omega) k3 t' ?_ ?_
        · (first | assumption | rfl)
        · (first | assumption | rfl)
    · have q' : ¬ ((g.out.length : Int) < many) := by omega
      rw [if_neg q]
      simp only [fws, cond_true, cond_false, if_true, if_false, unV, isNil, optI, iV, stepI, evalR, reduceIte, reduceCtorEq, Nat.reduceEqDiff, Int.reduceLT, Int.reduceLE, Int.reduceToNat, Nat.reduceLT, Nat.reduceLeDiff, Int.reduceEq, Int.reduceNeg, IntKind.bits, Nat.reduceAdd, Nat.reduceMul, Nat.reducePow, Int.reducePow, ini, fwi, F_aps_Decoder0_W, F_aps_Decoder1_W, F_aps_Decoder1_g3, F_aps_Decoder2_W, F_aps_Decoder3_W, F_aps_Decoder4_W, F_aps_Decoder5_W, F_aps_Decoder6_W, F_aps_Decoder6_g6, F_aps_Decoder6_g10, F_aps_Decoder7_W, F_aps_Decoder8_W, F_aps_Decoder9_W, F_aps_Decoder10_W, F_aps_Decodel0_W, F_aps_Decoder11_W, F_aps_Decoder12_W, F_aps_Decoder13_W, F_aps_Decodec_W, F_aps_Decoder0_W, F_aps_Decoder1_W, F_aps_Decoder1_g3, F_aps_Decoder2_W, F_aps_Decoder3_W, F_aps_Decoder4_W, F_aps_Decoder5_W, F_aps_Decoder6_W, F_aps_Decoder6_g6, F_aps_Decoder6_g10, F_aps_Decoder7_W, F_aps_Decoder8_W, F_aps_Decoder9_W, F_aps_Decoder10_W, F_aps_Decodel0_W, F_aps_Decoder11_W, F_aps_Decoder12_W, F_aps_Decoder13_W, F_aps_Decodec_W, e6, e7, x4, hlen, q']
      exact ⟨trivial, trivial, hb, u, t⟩
end
end Go.Proofs.Ytdkdifjjpbfohaa
