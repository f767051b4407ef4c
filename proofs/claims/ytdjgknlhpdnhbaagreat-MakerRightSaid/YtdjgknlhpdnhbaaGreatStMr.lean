/- StMr: structs as Lean structures, printed by structgen.py. -/
import Derived.Test.YtdjgknlhpdnhbaaGreatFwC
namespace Go.Proofs.YtdjgknlhpdnhbaaGreat
open Go Fw
set_option linter.unusedSimpArgs false
set_option linter.unusedVariables false
structure S_api_Sym where
  Name : List UInt8
  Ver : List UInt8
  Hidden : Bool
  Bind : Int
  Defined : Bool
  Value : Int
  Size : Int
deriving DecidableEq
set_option maxRecDepth 10000 in
def S_api_SymE : Enc S_api_Sym where
  e s := [strV (s.Name), strV (s.Ver), .bool (s.Hidden), .int .i64 (s.Bind), .bool (s.Defined), .int .u64 (s.Value), .int .u64 (s.Size)]
  u := 7
  d := 0
  hu _ := by rfl
  hp k s := by
    have key : ∀ m, 0 ≤ m → (([strV (s.Name), strV (s.Ver), .bool (s.Hidden), .int .i64 (s.Bind), .bool (s.Defined), .int .u64 (s.Value), .int .u64 (s.Size)] : List Value)).all (pureV m) = true := fun m hm => by
      simp [pure_int, pure_bool, pure_string, bltN, byteE_d, intE_d, boolE_d, strE_d, slE_d]
      try omega
    exact key _ (Nat.le_add_left _ _)
  ho s := by
    show (([strV (s.Name), strV (s.Ver), .bool (s.Hidden), .int .i64 (s.Bind), .bool (s.Defined), .int .u64 (s.Value), .int .u64 (s.Size)] : List Value)).all oneC = true
    simp [oneC_int, oneC_bool, oneC_string, oneC_sl]
theorem S_api_SymE_u : S_api_SymE.u = 7 := rfl
theorem S_api_SymE_d : S_api_SymE.d = 0 := rfl
theorem S_api_SymE_e {s : S_api_Sym} : S_api_SymE.e s = [strV (s.Name), strV (s.Ver), .bool (s.Hidden), .int .i64 (s.Bind), .bool (s.Defined), .int .u64 (s.Value), .int .u64 (s.Size)] := rfl
def S_api_Sym.wf (s : S_api_Sym) : Prop := (fun s => s.length ≤ maxLen) s.Name ∧ (fun s => s.length ≤ maxLen) s.Ver ∧ (fun _ => True) s.Hidden ∧ (fun n => (Lit.int .i64 n).wf = true) s.Bind ∧ (fun _ => True) s.Defined ∧ (fun n => (Lit.int .u64 n).wf = true) s.Value ∧ (fun n => (Lit.int .u64 n).wf = true) s.Size
theorem opn_api_Sym {H : Type} {P : Program} {enc : TypeId × Value → H} {W : World} {t : TypeId} {fs : Array Field} (ht : P.underlying t = some (.struct fs)) (hc : P.cellsOf t = 7)
    (h0 : FOpn P enc W fs 0 0 strE (fun s => s.length ≤ maxLen))
    (h1 : FOpn P enc W fs 1 1 strE (fun s => s.length ≤ maxLen))
    (h2 : FOpn P enc W fs 2 2 boolE (fun _ => True))
    (h3 : FOpn P enc W fs 3 3 (intE .i64) (fun n => (Lit.int .i64 n).wf = true))
    (h4 : FOpn P enc W fs 4 4 boolE (fun _ => True))
    (h5 : FOpn P enc W fs 5 5 (intE .u64) (fun n => (Lit.int .u64 n).wf = true))
    (h6 : FOpn P enc W fs 6 6 (intE .u64) (fun n => (Lit.int .u64 n).wf = true))
    : Opn P enc W t S_api_SymE S_api_Sym.wf := fun fuel cs x h => by
  have hl := opn_len ht h
  rw [hc] at hl
  obtain ⟨a0, w0, u0⟩ := opn_field ht h h0
  obtain ⟨a1, w1, u1⟩ := opn_field ht h h1
  obtain ⟨a2, w2, u2⟩ := opn_field ht h h2
  obtain ⟨a3, w3, u3⟩ := opn_field ht h h3
  obtain ⟨a4, w4, u4⟩ := opn_field ht h h4
  obtain ⟨a5, w5, u5⟩ := opn_field ht h h5
  obtain ⟨a6, w6, u6⟩ := opn_field ht h h6
  refine ⟨⟨a0, a1, a2, a3, a4, a5, a6⟩, ⟨w0, w1, w2, w3, w4, w5, w6⟩, vrs_all ?_⟩
  exact (vrs_next u0 rfl (vrs_next u1 rfl (vrs_next u2 rfl (vrs_next u3 rfl (vrs_next u4 rfl (vrs_next u5 rfl (vrs_next u6 rfl (vrs_end hl))))))))
structure S_api_Rel where
  At : Int
  Typ : Int
  Sym : Int
  Add : Int
  Has : Bool
deriving DecidableEq
set_option maxRecDepth 10000 in
def S_api_RelE : Enc S_api_Rel where
  e s := [.int .u64 (s.At), .int .u32 (s.Typ), .int .u32 (s.Sym), .int .i64 (s.Add), .bool (s.Has)]
  u := 5
  d := 0
  hu _ := by rfl
  hp k s := by
    have key : ∀ m, 0 ≤ m → (([.int .u64 (s.At), .int .u32 (s.Typ), .int .u32 (s.Sym), .int .i64 (s.Add), .bool (s.Has)] : List Value)).all (pureV m) = true := fun m hm => by
      simp [pure_int, pure_bool, pure_string, bltN, byteE_d, intE_d, boolE_d, strE_d, slE_d]
      try omega
    exact key _ (Nat.le_add_left _ _)
  ho s := by
    show (([.int .u64 (s.At), .int .u32 (s.Typ), .int .u32 (s.Sym), .int .i64 (s.Add), .bool (s.Has)] : List Value)).all oneC = true
    simp [oneC_int, oneC_bool, oneC_string, oneC_sl]
theorem S_api_RelE_u : S_api_RelE.u = 5 := rfl
theorem S_api_RelE_d : S_api_RelE.d = 0 := rfl
theorem S_api_RelE_e {s : S_api_Rel} : S_api_RelE.e s = [.int .u64 (s.At), .int .u32 (s.Typ), .int .u32 (s.Sym), .int .i64 (s.Add), .bool (s.Has)] := rfl
def S_api_Rel.wf (s : S_api_Rel) : Prop := (fun n => (Lit.int .u64 n).wf = true) s.At ∧ (fun n => (Lit.int .u32 n).wf = true) s.Typ ∧ (fun n => (Lit.int .u32 n).wf = true) s.Sym ∧ (fun n => (Lit.int .i64 n).wf = true) s.Add ∧ (fun _ => True) s.Has
theorem opn_api_Rel {H : Type} {P : Program} {enc : TypeId × Value → H} {W : World} {t : TypeId} {fs : Array Field} (ht : P.underlying t = some (.struct fs)) (hc : P.cellsOf t = 5)
    (h0 : FOpn P enc W fs 0 0 (intE .u64) (fun n => (Lit.int .u64 n).wf = true))
    (h1 : FOpn P enc W fs 1 1 (intE .u32) (fun n => (Lit.int .u32 n).wf = true))
    (h2 : FOpn P enc W fs 2 2 (intE .u32) (fun n => (Lit.int .u32 n).wf = true))
    (h3 : FOpn P enc W fs 3 3 (intE .i64) (fun n => (Lit.int .i64 n).wf = true))
    (h4 : FOpn P enc W fs 4 4 boolE (fun _ => True))
    : Opn P enc W t S_api_RelE S_api_Rel.wf := fun fuel cs x h => by
  have hl := opn_len ht h
  rw [hc] at hl
  obtain ⟨a0, w0, u0⟩ := opn_field ht h h0
  obtain ⟨a1, w1, u1⟩ := opn_field ht h h1
  obtain ⟨a2, w2, u2⟩ := opn_field ht h h2
  obtain ⟨a3, w3, u3⟩ := opn_field ht h h3
  obtain ⟨a4, w4, u4⟩ := opn_field ht h h4
  refine ⟨⟨a0, a1, a2, a3, a4⟩, ⟨w0, w1, w2, w3, w4⟩, vrs_all ?_⟩
  exact (vrs_next u0 rfl (vrs_next u1 rfl (vrs_next u2 rfl (vrs_next u3 rfl (vrs_next u4 rfl (vrs_end hl))))))
structure S_api_Spec where
  Machine : Int
  Soname : List UInt8
  Runpath : List UInt8
  Needed : Option (List (List UInt8))
  Symbolic : Bool
  Global : Bool
  Nodelete : Bool
  Syms : Option (List S_api_Sym)
  Rels : Option (List S_api_Rel)
  Relr : Option (List Int)
  Data : Option (List UInt8)
  Zeros : Int
  Relro : Int
  Gnu : Bool
  Packed : Bool
  Rela : Bool
  Init : Int
  Fini : Int
deriving DecidableEq
set_option maxRecDepth 10000 in
def S_api_SpecE : Enc S_api_Spec where
  e s := [.int .u16 (s.Machine), strV (s.Soname), strV (s.Runpath), slV strE (s.Needed), .bool (s.Symbolic), .bool (s.Global), .bool (s.Nodelete), slV S_api_SymE (s.Syms), slV S_api_RelE (s.Rels), slV (intE .u64) (s.Relr), slV byteE (s.Data), .int .i64 (s.Zeros), .int .i64 (s.Relro), .bool (s.Gnu), .bool (s.Packed), .bool (s.Rela), .int .i64 (s.Init), .int .i64 (s.Fini)]
  u := 18
  d := 1
  hu _ := by rfl
  hp k s := by
    have key : ∀ m, 1 ≤ m → (([.int .u16 (s.Machine), strV (s.Soname), strV (s.Runpath), slV strE (s.Needed), .bool (s.Symbolic), .bool (s.Global), .bool (s.Nodelete), slV S_api_SymE (s.Syms), slV S_api_RelE (s.Rels), slV (intE .u64) (s.Relr), slV byteE (s.Data), .int .i64 (s.Zeros), .int .i64 (s.Relro), .bool (s.Gnu), .bool (s.Packed), .bool (s.Rela), .int .i64 (s.Init), .int .i64 (s.Fini)] : List Value)).all (pureV m) = true := fun m hm => by
      have hsl0 : ∀ o, pureV m (slV (intE .u64) o) = true := fun o => pure_sl (by rw [bltN, decide_eq_true_eq]; simp only [byteE_d, intE_d, boolE_d, strE_d, slE_d, S_api_RelE_d, S_api_SymE_d]; omega)
      have hsl1 : ∀ o, pureV m (slV S_api_RelE o) = true := fun o => pure_sl (by rw [bltN, decide_eq_true_eq]; simp only [byteE_d, intE_d, boolE_d, strE_d, slE_d, S_api_RelE_d, S_api_SymE_d]; omega)
      have hsl2 : ∀ o, pureV m (slV S_api_SymE o) = true := fun o => pure_sl (by rw [bltN, decide_eq_true_eq]; simp only [byteE_d, intE_d, boolE_d, strE_d, slE_d, S_api_RelE_d, S_api_SymE_d]; omega)
      have hsl3 : ∀ o, pureV m (slV byteE o) = true := fun o => pure_sl (by rw [bltN, decide_eq_true_eq]; simp only [byteE_d, intE_d, boolE_d, strE_d, slE_d, S_api_RelE_d, S_api_SymE_d]; omega)
      have hsl4 : ∀ o, pureV m (slV strE o) = true := fun o => pure_sl (by rw [bltN, decide_eq_true_eq]; simp only [byteE_d, intE_d, boolE_d, strE_d, slE_d, S_api_RelE_d, S_api_SymE_d]; omega)
      simp [pure_int, pure_bool, pure_string, hsl0, hsl1, hsl2, hsl3, hsl4, bltN, byteE_d, intE_d, boolE_d, strE_d, slE_d, S_api_RelE_d, S_api_SymE_d]
      try omega
    exact key _ (Nat.le_add_left _ _)
  ho s := by
    show (([.int .u16 (s.Machine), strV (s.Soname), strV (s.Runpath), slV strE (s.Needed), .bool (s.Symbolic), .bool (s.Global), .bool (s.Nodelete), slV S_api_SymE (s.Syms), slV S_api_RelE (s.Rels), slV (intE .u64) (s.Relr), slV byteE (s.Data), .int .i64 (s.Zeros), .int .i64 (s.Relro), .bool (s.Gnu), .bool (s.Packed), .bool (s.Rela), .int .i64 (s.Init), .int .i64 (s.Fini)] : List Value)).all oneC = true
    simp [oneC_int, oneC_bool, oneC_string, oneC_sl]
theorem S_api_SpecE_u : S_api_SpecE.u = 18 := rfl
theorem S_api_SpecE_d : S_api_SpecE.d = 1 := rfl
theorem S_api_SpecE_e {s : S_api_Spec} : S_api_SpecE.e s = [.int .u16 (s.Machine), strV (s.Soname), strV (s.Runpath), slV strE (s.Needed), .bool (s.Symbolic), .bool (s.Global), .bool (s.Nodelete), slV S_api_SymE (s.Syms), slV S_api_RelE (s.Rels), slV (intE .u64) (s.Relr), slV byteE (s.Data), .int .i64 (s.Zeros), .int .i64 (s.Relro), .bool (s.Gnu), .bool (s.Packed), .bool (s.Rela), .int .i64 (s.Init), .int .i64 (s.Fini)] := rfl
def S_api_Spec.wf (s : S_api_Spec) : Prop := (fun n => (Lit.int .u16 n).wf = true) s.Machine ∧ (fun s => s.length ≤ maxLen) s.Soname ∧ (fun s => s.length ≤ maxLen) s.Runpath ∧ (fun o => (lst o).length ≤ maxLen ∧ ∀ x ∈ lst o, (fun s => s.length ≤ maxLen) x) s.Needed ∧ (fun _ => True) s.Symbolic ∧ (fun _ => True) s.Global ∧ (fun _ => True) s.Nodelete ∧ (fun o => (lst o).length ≤ maxLen ∧ ∀ x ∈ lst o, S_api_Sym.wf x) s.Syms ∧ (fun o => (lst o).length ≤ maxLen ∧ ∀ x ∈ lst o, S_api_Rel.wf x) s.Rels ∧ (fun o => (lst o).length ≤ maxLen ∧ ∀ x ∈ lst o, (fun n => (Lit.int .u64 n).wf = true) x) s.Relr ∧ (fun o => (lst o).length ≤ maxLen ∧ ∀ x ∈ lst o, (fun _ => True) x) s.Data ∧ (fun n => (Lit.int .i64 n).wf = true) s.Zeros ∧ (fun n => (Lit.int .i64 n).wf = true) s.Relro ∧ (fun _ => True) s.Gnu ∧ (fun _ => True) s.Packed ∧ (fun _ => True) s.Rela ∧ (fun n => (Lit.int .i64 n).wf = true) s.Init ∧ (fun n => (Lit.int .i64 n).wf = true) s.Fini
theorem opn_api_Spec {H : Type} {P : Program} {enc : TypeId × Value → H} {W : World} {t : TypeId} {fs : Array Field} (ht : P.underlying t = some (.struct fs)) (hc : P.cellsOf t = 18)
    (h0 : FOpn P enc W fs 0 0 (intE .u16) (fun n => (Lit.int .u16 n).wf = true))
    (h1 : FOpn P enc W fs 1 1 strE (fun s => s.length ≤ maxLen))
    (h2 : FOpn P enc W fs 2 2 strE (fun s => s.length ≤ maxLen))
    (h3 : FOpn P enc W fs 3 3 (slE strE) (fun o => (lst o).length ≤ maxLen ∧ ∀ x ∈ lst o, (fun s => s.length ≤ maxLen) x))
    (h4 : FOpn P enc W fs 4 4 boolE (fun _ => True))
    (h5 : FOpn P enc W fs 5 5 boolE (fun _ => True))
    (h6 : FOpn P enc W fs 6 6 boolE (fun _ => True))
    (h7 : FOpn P enc W fs 7 7 (slE S_api_SymE) (fun o => (lst o).length ≤ maxLen ∧ ∀ x ∈ lst o, S_api_Sym.wf x))
    (h8 : FOpn P enc W fs 8 8 (slE S_api_RelE) (fun o => (lst o).length ≤ maxLen ∧ ∀ x ∈ lst o, S_api_Rel.wf x))
    (h9 : FOpn P enc W fs 9 9 (slE (intE .u64)) (fun o => (lst o).length ≤ maxLen ∧ ∀ x ∈ lst o, (fun n => (Lit.int .u64 n).wf = true) x))
    (h10 : FOpn P enc W fs 10 10 (slE byteE) (fun o => (lst o).length ≤ maxLen ∧ ∀ x ∈ lst o, (fun _ => True) x))
    (h11 : FOpn P enc W fs 11 11 (intE .i64) (fun n => (Lit.int .i64 n).wf = true))
    (h12 : FOpn P enc W fs 12 12 (intE .i64) (fun n => (Lit.int .i64 n).wf = true))
    (h13 : FOpn P enc W fs 13 13 boolE (fun _ => True))
    (h14 : FOpn P enc W fs 14 14 boolE (fun _ => True))
    (h15 : FOpn P enc W fs 15 15 boolE (fun _ => True))
    (h16 : FOpn P enc W fs 16 16 (intE .i64) (fun n => (Lit.int .i64 n).wf = true))
    (h17 : FOpn P enc W fs 17 17 (intE .i64) (fun n => (Lit.int .i64 n).wf = true))
    : Opn P enc W t S_api_SpecE S_api_Spec.wf := fun fuel cs x h => by
  have hl := opn_len ht h
  rw [hc] at hl
  obtain ⟨a0, w0, u0⟩ := opn_field ht h h0
  obtain ⟨a1, w1, u1⟩ := opn_field ht h h1
  obtain ⟨a2, w2, u2⟩ := opn_field ht h h2
  obtain ⟨a3, w3, u3⟩ := opn_field ht h h3
  obtain ⟨a4, w4, u4⟩ := opn_field ht h h4
  obtain ⟨a5, w5, u5⟩ := opn_field ht h h5
  obtain ⟨a6, w6, u6⟩ := opn_field ht h h6
  obtain ⟨a7, w7, u7⟩ := opn_field ht h h7
  obtain ⟨a8, w8, u8⟩ := opn_field ht h h8
  obtain ⟨a9, w9, u9⟩ := opn_field ht h h9
  obtain ⟨a10, w10, u10⟩ := opn_field ht h h10
  obtain ⟨a11, w11, u11⟩ := opn_field ht h h11
  obtain ⟨a12, w12, u12⟩ := opn_field ht h h12
  obtain ⟨a13, w13, u13⟩ := opn_field ht h h13
  obtain ⟨a14, w14, u14⟩ := opn_field ht h h14
  obtain ⟨a15, w15, u15⟩ := opn_field ht h h15
  obtain ⟨a16, w16, u16⟩ := opn_field ht h h16
  obtain ⟨a17, w17, u17⟩ := opn_field ht h h17
  refine ⟨⟨a0, a1, a2, a3, a4, a5, a6, a7, a8, a9, a10, a11, a12, a13, a14, a15, a16, a17⟩, ⟨w0, w1, w2, w3, w4, w5, w6, w7, w8, w9, w10, w11, w12, w13, w14, w15, w16, w17⟩, vrs_all ?_⟩
  exact (vrs_next u0 rfl (vrs_next u1 rfl (vrs_next u2 rfl (vrs_next u3 rfl (vrs_next u4 rfl (vrs_next u5 rfl (vrs_next u6 rfl (vrs_next u7 rfl (vrs_next u8 rfl (vrs_next u9 rfl (vrs_next u10 rfl (vrs_next u11 rfl (vrs_next u12 rfl (vrs_next u13 rfl (vrs_next u14 rfl (vrs_next u15 rfl (vrs_next u16 rfl (vrs_next u17 rfl (vrs_end hl)))))))))))))))))))
end Go.Proofs.YtdjgknlhpdnhbaaGreat
