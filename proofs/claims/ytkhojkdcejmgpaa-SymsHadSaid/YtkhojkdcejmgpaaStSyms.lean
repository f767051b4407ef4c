/- StSyms: structs as Lean structures, printed by structgen.py. -/
import Derived.Test.YtkhojkdcejmgpaaFw27
namespace Go.Proofs.Ytkhojkdcejmgpaa
open Go Fw
set_option linter.unusedSimpArgs false
set_option linter.unusedVariables false
structure S_messuagelaw10_Ask where
  Versions : Bool
  Name : List UInt8
  Ver : List UInt8
  At : Int
deriving DecidableEq
def S_messuagelaw10_AskE : Enc S_messuagelaw10_Ask where
  e s := [.bool (s.Versions), strV (s.Name), strV (s.Ver), .int .u64 (s.At)]
  u := 4
  d := 0
  hu _ := by rfl
  hp k s := by
    have key : ∀ m, 0 ≤ m → ([.bool (s.Versions), strV (s.Name), strV (s.Ver), .int .u64 (s.At)]).all (pureV m) = true := fun m hm => by
      simp [pure_int, pure_bool, pure_string, pure_sl, bltN, byteE_d, intE_d, boolE_d, strE_d, slE_d]
      try omega
    exact key _ (Nat.le_add_left _ _)
  ho s := by simp [oneC_int, oneC_bool, oneC_string, oneC_sl, Enc.ho]
theorem S_messuagelaw10_AskE_u : S_messuagelaw10_AskE.u = 4 := rfl
theorem S_messuagelaw10_AskE_d : S_messuagelaw10_AskE.d = 0 := rfl
theorem S_messuagelaw10_AskE_e {s : S_messuagelaw10_Ask} : S_messuagelaw10_AskE.e s = [.bool (s.Versions), strV (s.Name), strV (s.Ver), .int .u64 (s.At)] := rfl
def S_messuagelaw10_Ask.wf (s : S_messuagelaw10_Ask) : Prop := (fun _ => True) s.Versions ∧ (fun s => s.length ≤ maxLen) s.Name ∧ (fun s => s.length ≤ maxLen) s.Ver ∧ (fun n => (Lit.int .u64 n).wf = true) s.At
theorem opn_messuagelaw10_Ask {H : Type} {P : Program} {enc : TypeId × Value → H} {W : World} {t : TypeId} {fs : Array Field} (ht : P.underlying t = some (.struct fs)) (hc : P.cellsOf t = 4)
    (h0 : FOpn P enc W fs 0 0 boolE (fun _ => True))
    (h1 : FOpn P enc W fs 1 1 strE (fun s => s.length ≤ maxLen))
    (h2 : FOpn P enc W fs 2 2 strE (fun s => s.length ≤ maxLen))
    (h3 : FOpn P enc W fs 3 3 (intE .u64) (fun n => (Lit.int .u64 n).wf = true))
    : Opn P enc W t S_messuagelaw10_AskE S_messuagelaw10_Ask.wf := fun fuel cs x h => by
  have hl := opn_len ht h
  rw [hc] at hl
  obtain ⟨a0, w0, u0⟩ := opn_field ht h h0
  obtain ⟨a1, w1, u1⟩ := opn_field ht h h1
  obtain ⟨a2, w2, u2⟩ := opn_field ht h h2
  obtain ⟨a3, w3, u3⟩ := opn_field ht h h3
  refine ⟨⟨a0, a1, a2, a3⟩, ⟨w0, w1, w2, w3⟩, vrs_all ?_⟩
  exact (vrs_next u0 rfl (vrs_next u1 rfl (vrs_next u2 rfl (vrs_next u3 rfl (vrs_end hl)))))
structure S_api_Sym where
  Name : List UInt8
  Ver : List UInt8
  Hidden : Bool
  Bind : Int
  Defined : Bool
  Value : Int
  Size : Int
deriving DecidableEq
def S_api_SymE : Enc S_api_Sym where
  e s := [strV (s.Name), strV (s.Ver), .bool (s.Hidden), .int .i64 (s.Bind), .bool (s.Defined), .int .u64 (s.Value), .int .u64 (s.Size)]
  u := 7
  d := 0
  hu _ := by rfl
  hp k s := by
    have key : ∀ m, 0 ≤ m → ([strV (s.Name), strV (s.Ver), .bool (s.Hidden), .int .i64 (s.Bind), .bool (s.Defined), .int .u64 (s.Value), .int .u64 (s.Size)]).all (pureV m) = true := fun m hm => by
      simp [pure_int, pure_bool, pure_string, pure_sl, bltN, byteE_d, intE_d, boolE_d, strE_d, slE_d]
      try omega
    exact key _ (Nat.le_add_left _ _)
  ho s := by simp [oneC_int, oneC_bool, oneC_string, oneC_sl, Enc.ho]
theorem S_api_SymE_u : S_api_SymE.u = 7 := rfl
theorem S_api_SymE_d : S_api_SymE.d = 0 := rfl
theorem S_api_SymE_e {s : S_api_Sym} : S_api_SymE.e s = [strV (s.Name), strV (s.Ver), .bool (s.Hidden), .int .i64 (s.Bind), .bool (s.Defined), .int .u64 (s.Value), .int .u64 (s.Size)] := rfl
def S_api_Sym.wf (s : S_api_Sym) : Prop := (fun s => s.length ≤ maxLen) s.Name ∧ (fun s => s.length ≤ maxLen) s.Ver ∧ (fun _ => True) s.Hidden ∧ (fun n => (Lit.int .i64 n).wf = true) s.Bind ∧ (fun _ => True) s.Defined ∧ (fun n => (Lit.int .u64 n).wf = true) s.Value ∧ (fun n => (Lit.int .u64 n).wf = true) s.Size
theorem opn_api_Sym {H : Type} {P : Program} {enc : TypeId × Value → H} {W : World} {t : TypeId} {fs : Array Field} (ht : P.underlying t = some (.struct fs)) (hc : P.cellsOf t = 7)
    (h0 : FOpn P enc W fs 0 0 strE (fun s => s.length ≤ maxLen))
    (h1 : FOpn P enc W fs 1 1 strE (fun s => s.length ≤ maxLen))
    (h2 : FOpn P enc W fs 2 2 boolE (fun _ => True))
    (h3 : FOpn P enc W fs 3 3 (intE .i64) (fun n => (Lit.int .i64 n).wf = true))
    (h4 : FOpn P enc W fs 4 4 boolE (fun _ => True))
    (h5 : FOpn P enc W fs 5 5 (intE .u64) (fun n => (Lit.int .u64 n).wf = true))
    (h6 : FOpn P enc W fs 6 6 (intE .u64) (fun n => (Lit.int .u64 n).wf = true))
    : Opn P enc W t S_api_SymE S_api_Sym.wf := fun fuel cs x h => by
  have hl := opn_len ht h
  rw [hc] at hl
  obtain ⟨a0, w0, u0⟩ := opn_field ht h h0
  obtain ⟨a1, w1, u1⟩ := opn_field ht h h1
  obtain ⟨a2, w2, u2⟩ := opn_field ht h h2
  obtain ⟨a3, w3, u3⟩ := opn_field ht h h3
  obtain ⟨a4, w4, u4⟩ := opn_field ht h h4
  obtain ⟨a5, w5, u5⟩ := opn_field ht h h5
  obtain ⟨a6, w6, u6⟩ := opn_field ht h h6
  refine ⟨⟨a0, a1, a2, a3, a4, a5, a6⟩, ⟨w0, w1, w2, w3, w4, w5, w6⟩, vrs_all ?_⟩
  exact (vrs_next u0 rfl (vrs_next u1 rfl (vrs_next u2 rfl (vrs_next u3 rfl (vrs_next u4 rfl (vrs_next u5 rfl (vrs_next u6 rfl (vrs_end hl))))))))
end Go.Proofs.Ytkhojkdcejmgpaa
