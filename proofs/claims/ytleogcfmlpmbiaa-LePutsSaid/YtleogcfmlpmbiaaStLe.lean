/- StLe: structs as Lean structures, printed by structgen.py. -/
import Derived.Test.YtleogcfmlpmbiaaFw28
namespace Go.Proofs.Ytleogcfmlpmbiaa
open Go Fw
set_option linter.unusedSimpArgs false
set_option linter.unusedVariables false
structure S_messuagelaw02_Op where
  Kind : Int
  N : Int
  U : Int
  B : Option (List UInt8)
deriving DecidableEq
def S_messuagelaw02_OpE : Enc S_messuagelaw02_Op where
  e s := [.int .i64 (s.Kind), .int .i64 (s.N), .int .u64 (s.U), slV byteE (s.B)]
  u := 4
  d := 1
  hu _ := by rfl
  hp k s := by
    have key : ∀ m, 1 ≤ m → ([.int .i64 (s.Kind), .int .i64 (s.N), .int .u64 (s.U), slV byteE (s.B)]).all (pureV m) = true := fun m hm => by
      have hsl0 : ∀ o, pureV m (slV byteE o) = true := fun o => pure_sl (by rw [bltN, decide_eq_true_eq]; simp only [byteE_d, intE_d, boolE_d, strE_d, slE_d]; omega)
      simp [pure_int, pure_bool, pure_string, hsl0, bltN, byteE_d, intE_d, boolE_d, strE_d, slE_d]
      try omega
    exact key _ (Nat.le_add_left _ _)
  ho s := by simp [oneC_int, oneC_bool, oneC_string, oneC_sl, Enc.ho]
theorem S_messuagelaw02_OpE_u : S_messuagelaw02_OpE.u = 4 := rfl
theorem S_messuagelaw02_OpE_d : S_messuagelaw02_OpE.d = 1 := rfl
theorem S_messuagelaw02_OpE_e {s : S_messuagelaw02_Op} : S_messuagelaw02_OpE.e s = [.int .i64 (s.Kind), .int .i64 (s.N), .int .u64 (s.U), slV byteE (s.B)] := rfl
def S_messuagelaw02_Op.wf (s : S_messuagelaw02_Op) : Prop := (fun n => (Lit.int .i64 n).wf = true) s.Kind ∧ (fun n => (Lit.int .i64 n).wf = true) s.N ∧ (fun n => (Lit.int .u64 n).wf = true) s.U ∧ (fun o => (lst o).length ≤ maxLen ∧ ∀ x ∈ lst o, (fun _ => True) x) s.B
theorem opn_messuagelaw02_Op {H : Type} {P : Program} {enc : TypeId × Value → H} {W : World} {t : TypeId} {fs : Array Field} (ht : P.underlying t = some (.struct fs)) (hc : P.cellsOf t = 4)
    (h0 : FOpn P enc W fs 0 0 (intE .i64) (fun n => (Lit.int .i64 n).wf = true))
    (h1 : FOpn P enc W fs 1 1 (intE .i64) (fun n => (Lit.int .i64 n).wf = true))
    (h2 : FOpn P enc W fs 2 2 (intE .u64) (fun n => (Lit.int .u64 n).wf = true))
    (h3 : FOpn P enc W fs 3 3 (slE byteE) (fun o => (lst o).length ≤ maxLen ∧ ∀ x ∈ lst o, (fun _ => True) x))
    : Opn P enc W t S_messuagelaw02_OpE S_messuagelaw02_Op.wf := fun fuel cs x h => by
  have hl := opn_len ht h
  rw [hc] at hl
  obtain ⟨a0, w0, u0⟩ := opn_field ht h h0
  obtain ⟨a1, w1, u1⟩ := opn_field ht h h1
  obtain ⟨a2, w2, u2⟩ := opn_field ht h h2
  obtain ⟨a3, w3, u3⟩ := opn_field ht h h3
  refine ⟨⟨a0, a1, a2, a3⟩, ⟨w0, w1, w2, w3⟩, vrs_all ?_⟩
  exact (vrs_next u0 rfl (vrs_next u1 rfl (vrs_next u2 rfl (vrs_next u3 rfl (vrs_end hl)))))
end Go.Proofs.Ytleogcfmlpmbiaa
