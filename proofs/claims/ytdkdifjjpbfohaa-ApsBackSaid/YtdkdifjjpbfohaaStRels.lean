/- StRels: structs as Lean structures, printed by structgen.py. -/
import Derived.Test.YtdkdifjjpbfohaaFw28
namespace Go.Proofs.Ytdkdifjjpbfohaa
open Go Fw
set_option linter.unusedSimpArgs false
set_option linter.unusedVariables false
structure S_api_Rel where
  At : Int
  Typ : Int
  Sym : Int
  Add : Int
  Has : Bool
deriving DecidableEq
def S_api_RelE : Enc S_api_Rel where
  e s := [.int .u64 (s.At), .int .u32 (s.Typ), .int .u32 (s.Sym), .int .i64 (s.Add), .bool (s.Has)]
  u := 5
  d := 0
  hu _ := by rfl
  hp k s := by
    have key : ∀ m, 0 ≤ m → ([.int .u64 (s.At), .int .u32 (s.Typ), .int .u32 (s.Sym), .int .i64 (s.Add), .bool (s.Has)]).all (pureV m) = true := fun m hm => by
      simp [pure_int, pure_bool, pure_string, bltN, byteE_d, intE_d, boolE_d, strE_d, slE_d]
      try omega
    exact key _ (Nat.le_add_left _ _)
  ho s := by simp [oneC_int, oneC_bool, oneC_string, oneC_sl, Enc.ho]
theorem S_api_RelE_u : S_api_RelE.u = 5 := rfl
theorem S_api_RelE_d : S_api_RelE.d = 0 := rfl
theorem S_api_RelE_e {s : S_api_Rel} : S_api_RelE.e s = [.int .u64 (s.At), .int .u32 (s.Typ), .int .u32 (s.Sym), .int .i64 (s.Add), .bool (s.Has)] := rfl
def S_api_Rel.wf (s : S_api_Rel) : Prop := (fun n => (Lit.int .u64 n).wf = true) s.At ∧ (fun n => (Lit.int .u32 n).wf = true) s.Typ ∧ (fun n => (Lit.int .u32 n).wf = true) s.Sym ∧ (fun n => (Lit.int .i64 n).wf = true) s.Add ∧ (fun _ => True) s.Has
theorem opn_api_Rel {H : Type} {P : Program} {enc : TypeId × Value → H} {W : World} {t : TypeId} {fs : Array Field} (ht : P.underlying t = some (.struct fs)) (hc : P.cellsOf t = 5)
    (h0 : FOpn P enc W fs 0 0 (intE .u64) (fun n => (Lit.int .u64 n).wf = true))
    (h1 : FOpn P enc W fs 1 1 (intE .u32) (fun n => (Lit.int .u32 n).wf = true))
    (h2 : FOpn P enc W fs 2 2 (intE .u32) (fun n => (Lit.int .u32 n).wf = true))
    (h3 : FOpn P enc W fs 3 3 (intE .i64) (fun n => (Lit.int .i64 n).wf = true))
    (h4 : FOpn P enc W fs 4 4 boolE (fun _ => True))
    : Opn P enc W t S_api_RelE S_api_Rel.wf := fun fuel cs x h => by
  have hl := opn_len ht h
  rw [hc] at hl
  obtain ⟨a0, w0, u0⟩ := opn_field ht h h0
  obtain ⟨a1, w1, u1⟩ := opn_field ht h h1
  obtain ⟨a2, w2, u2⟩ := opn_field ht h h2
  obtain ⟨a3, w3, u3⟩ := opn_field ht h h3
  obtain ⟨a4, w4, u4⟩ := opn_field ht h h4
  refine ⟨⟨a0, a1, a2, a3, a4⟩, ⟨w0, w1, w2, w3, w4⟩, vrs_all ?_⟩
  exact (vrs_next u0 rfl (vrs_next u1 rfl (vrs_next u2 rfl (vrs_next u3 rfl (vrs_next u4 rfl (vrs_end hl))))))
end Go.Proofs.Ytdkdifjjpbfohaa
