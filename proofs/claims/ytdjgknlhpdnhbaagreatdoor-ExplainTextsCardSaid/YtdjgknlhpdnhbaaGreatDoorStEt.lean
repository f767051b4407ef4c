/- StEt: structs as Lean structures, printed by structgen.py. -/
import Derived.Test.YtdjgknlhpdnhbaaGreatDoorFwC
namespace Go.Proofs.YtdjgknlhpdnhbaaGreatDoor
open Go Fw
set_option linter.unusedSimpArgs false
set_option linter.unusedVariables false
structure S_explain_Step where
  Space : List UInt8
  Name : List UInt8
  By : Int
  Place : List UInt8
  What : Int
  Inst : Int
deriving DecidableEq
set_option maxRecDepth 10000 in
def S_explain_StepE : Enc S_explain_Step where
  e s := [strV (s.Space), strV (s.Name), .int .i64 (s.By), strV (s.Place), .int .i64 (s.What), .int .i64 (s.Inst)]
  u := 6
  d := 0
  hu _ := by rfl
  hp k s := by
    have key : ∀ m, 0 ≤ m → (([strV (s.Space), strV (s.Name), .int .i64 (s.By), strV (s.Place), .int .i64 (s.What), .int .i64 (s.Inst)] : List Value)).all (pureV m) = true := fun m hm => by
      simp [pure_int, pure_bool, pure_string, bltN, byteE_d, intE_d, boolE_d, strE_d, slE_d]
      try omega
    exact key _ (Nat.le_add_left _ _)
  ho s := by
    show (([strV (s.Space), strV (s.Name), .int .i64 (s.By), strV (s.Place), .int .i64 (s.What), .int .i64 (s.Inst)] : List Value)).all oneC = true
    simp [oneC_int, oneC_bool, oneC_string, oneC_sl]
theorem S_explain_StepE_u : S_explain_StepE.u = 6 := rfl
theorem S_explain_StepE_d : S_explain_StepE.d = 0 := rfl
theorem S_explain_StepE_e {s : S_explain_Step} : S_explain_StepE.e s = [strV (s.Space), strV (s.Name), .int .i64 (s.By), strV (s.Place), .int .i64 (s.What), .int .i64 (s.Inst)] := rfl
def S_explain_Step.wf (s : S_explain_Step) : Prop := (fun s => s.length ≤ maxLen) s.Space ∧ (fun s => s.length ≤ maxLen) s.Name ∧ (fun n => (Lit.int .i64 n).wf = true) s.By ∧ (fun s => s.length ≤ maxLen) s.Place ∧ (fun n => (Lit.int .i64 n).wf = true) s.What ∧ (fun n => (Lit.int .i64 n).wf = true) s.Inst
theorem opn_explain_Step {H : Type} {P : Program} {enc : TypeId × Value → H} {W : World} {t : TypeId} {fs : Array Field} (ht : P.underlying t = some (.struct fs)) (hc : P.cellsOf t = 6)
    (h0 : FOpn P enc W fs 0 0 strE (fun s => s.length ≤ maxLen))
    (h1 : FOpn P enc W fs 1 1 strE (fun s => s.length ≤ maxLen))
    (h2 : FOpn P enc W fs 2 2 (intE .i64) (fun n => (Lit.int .i64 n).wf = true))
    (h3 : FOpn P enc W fs 3 3 strE (fun s => s.length ≤ maxLen))
    (h4 : FOpn P enc W fs 4 4 (intE .i64) (fun n => (Lit.int .i64 n).wf = true))
    (h5 : FOpn P enc W fs 5 5 (intE .i64) (fun n => (Lit.int .i64 n).wf = true))
    : Opn P enc W t S_explain_StepE S_explain_Step.wf := fun fuel cs x h => by
  have hl := opn_len ht h
  rw [hc] at hl
  obtain ⟨a0, w0, u0⟩ := opn_field ht h h0
  obtain ⟨a1, w1, u1⟩ := opn_field ht h h1
  obtain ⟨a2, w2, u2⟩ := opn_field ht h h2
  obtain ⟨a3, w3, u3⟩ := opn_field ht h h3
  obtain ⟨a4, w4, u4⟩ := opn_field ht h h4
  obtain ⟨a5, w5, u5⟩ := opn_field ht h h5
  refine ⟨⟨a0, a1, a2, a3, a4, a5⟩, ⟨w0, w1, w2, w3, w4, w5⟩, vrs_all ?_⟩
  exact (vrs_next u0 rfl (vrs_next u1 rfl (vrs_next u2 rfl (vrs_next u3 rfl (vrs_next u4 rfl (vrs_next u5 rfl (vrs_end hl)))))))
end Go.Proofs.YtdjgknlhpdnhbaaGreatDoor
