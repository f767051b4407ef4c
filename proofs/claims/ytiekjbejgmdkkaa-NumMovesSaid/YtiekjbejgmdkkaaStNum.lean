/- StNum: structs as Lean structures, printed by structgen.py. -/
import Derived.Test.YtiekjbejgmdkkaaFw27
namespace Go.Proofs.Ytiekjbejgmdkkaa
open Go Fw
set_option linter.unusedSimpArgs false
set_option linter.unusedVariables false
structure S_messuagelaw01_Rows where
  At : Int
  Size : Int
  From : Int
  Room : Int
deriving DecidableEq
def S_messuagelaw01_RowsE : Enc S_messuagelaw01_Rows where
  e s := [.int .u64 (s.At), .int .u64 (s.Size), .int .u64 (s.From), .int .u64 (s.Room)]
  u := 4
  d := 0
  hu _ := by rfl
  hp k s := by
    have key : ∀ m, 0 ≤ m → ([.int .u64 (s.At), .int .u64 (s.Size), .int .u64 (s.From), .int .u64 (s.Room)]).all (pureV m) = true := fun m hm => by
      simp [pure_int, pure_bool, pure_string, pure_sl, bltN, byteE_d, intE_d, boolE_d, strE_d, slE_d]
      try omega
    exact key _ (Nat.le_add_left _ _)
  ho s := by simp [oneC_int, oneC_bool, oneC_string, oneC_sl, Enc.ho]
theorem S_messuagelaw01_RowsE_u : S_messuagelaw01_RowsE.u = 4 := rfl
theorem S_messuagelaw01_RowsE_d : S_messuagelaw01_RowsE.d = 0 := rfl
theorem S_messuagelaw01_RowsE_e {s : S_messuagelaw01_Rows} : S_messuagelaw01_RowsE.e s = [.int .u64 (s.At), .int .u64 (s.Size), .int .u64 (s.From), .int .u64 (s.Room)] := rfl
def S_messuagelaw01_Rows.wf (s : S_messuagelaw01_Rows) : Prop := (fun n => (Lit.int .u64 n).wf = true) s.At ∧ (fun n => (Lit.int .u64 n).wf = true) s.Size ∧ (fun n => (Lit.int .u64 n).wf = true) s.From ∧ (fun n => (Lit.int .u64 n).wf = true) s.Room
theorem opn_messuagelaw01_Rows {H : Type} {P : Program} {enc : TypeId × Value → H} {W : World} {t : TypeId} {fs : Array Field} (ht : P.underlying t = some (.struct fs)) (hc : P.cellsOf t = 4)
    (h0 : FOpn P enc W fs 0 0 (intE .u64) (fun n => (Lit.int .u64 n).wf = true))
    (h1 : FOpn P enc W fs 1 1 (intE .u64) (fun n => (Lit.int .u64 n).wf = true))
    (h2 : FOpn P enc W fs 2 2 (intE .u64) (fun n => (Lit.int .u64 n).wf = true))
    (h3 : FOpn P enc W fs 3 3 (intE .u64) (fun n => (Lit.int .u64 n).wf = true))
    : Opn P enc W t S_messuagelaw01_RowsE S_messuagelaw01_Rows.wf := fun fuel cs x h => by
  have hl := opn_len ht h
  rw [hc] at hl
  obtain ⟨a0, w0, u0⟩ := opn_field ht h h0
  obtain ⟨a1, w1, u1⟩ := opn_field ht h h1
  obtain ⟨a2, w2, u2⟩ := opn_field ht h h2
  obtain ⟨a3, w3, u3⟩ := opn_field ht h h3
  refine ⟨⟨a0, a1, a2, a3⟩, ⟨w0, w1, w2, w3⟩, vrs_all ?_⟩
  exact (vrs_next u0 rfl (vrs_next u1 rfl (vrs_next u2 rfl (vrs_next u3 rfl (vrs_end hl)))))
end Go.Proofs.Ytiekjbejgmdkkaa
