/- StDu: structs as Lean structures, printed by structgen.py. -/
import Derived.Test.YtdajdgjacajemaaGreatFwC
namespace Go.Proofs.YtdajdgjacajemaaGreat
open Go Fw
set_option linter.unusedSimpArgs false
set_option linter.unusedVariables false
structure S_api_Phdr where
  Typ : Int
  Flags : Int
  Off : Int
  Vaddr : Int
  Filesz : Int
  Memsz : Int
  Align : Int
deriving DecidableEq
set_option maxRecDepth 10000 in
def S_api_PhdrE : Enc S_api_Phdr where
  e s := [.int .u32 (s.Typ), .int .u32 (s.Flags), .int .u64 (s.Off), .int .u64 (s.Vaddr), .int .u64 (s.Filesz), .int .u64 (s.Memsz), .int .u64 (s.Align)]
  u := 7
  d := 0
  hu _ := by rfl
  hp k s := by
    have key : ∀ m, 0 ≤ m → (([.int .u32 (s.Typ), .int .u32 (s.Flags), .int .u64 (s.Off), .int .u64 (s.Vaddr), .int .u64 (s.Filesz), .int .u64 (s.Memsz), .int .u64 (s.Align)] : List Value)).all (pureV m) = true := fun m hm => by
      simp [pure_int, pure_bool, pure_string, bltN, byteE_d, intE_d, boolE_d, strE_d, slE_d]
      try omega
    exact key _ (Nat.le_add_left _ _)
  ho s := by
    show (([.int .u32 (s.Typ), .int .u32 (s.Flags), .int .u64 (s.Off), .int .u64 (s.Vaddr), .int .u64 (s.Filesz), .int .u64 (s.Memsz), .int .u64 (s.Align)] : List Value)).all oneC = true
    simp [oneC_int, oneC_bool, oneC_string, oneC_sl]
theorem S_api_PhdrE_u : S_api_PhdrE.u = 7 := rfl
theorem S_api_PhdrE_d : S_api_PhdrE.d = 0 := rfl
theorem S_api_PhdrE_e {s : S_api_Phdr} : S_api_PhdrE.e s = [.int .u32 (s.Typ), .int .u32 (s.Flags), .int .u64 (s.Off), .int .u64 (s.Vaddr), .int .u64 (s.Filesz), .int .u64 (s.Memsz), .int .u64 (s.Align)] := rfl
def S_api_Phdr.wf (s : S_api_Phdr) : Prop := (fun n => (Lit.int .u32 n).wf = true) s.Typ ∧ (fun n => (Lit.int .u32 n).wf = true) s.Flags ∧ (fun n => (Lit.int .u64 n).wf = true) s.Off ∧ (fun n => (Lit.int .u64 n).wf = true) s.Vaddr ∧ (fun n => (Lit.int .u64 n).wf = true) s.Filesz ∧ (fun n => (Lit.int .u64 n).wf = true) s.Memsz ∧ (fun n => (Lit.int .u64 n).wf = true) s.Align
theorem opn_api_Phdr {H : Type} {P : Program} {enc : TypeId × Value → H} {W : World} {t : TypeId} {fs : Array Field} (ht : P.underlying t = some (.struct fs)) (hc : P.cellsOf t = 7)
    (h0 : FOpn P enc W fs 0 0 (intE .u32) (fun n => (Lit.int .u32 n).wf = true))
    (h1 : FOpn P enc W fs 1 1 (intE .u32) (fun n => (Lit.int .u32 n).wf = true))
    (h2 : FOpn P enc W fs 2 2 (intE .u64) (fun n => (Lit.int .u64 n).wf = true))
    (h3 : FOpn P enc W fs 3 3 (intE .u64) (fun n => (Lit.int .u64 n).wf = true))
    (h4 : FOpn P enc W fs 4 4 (intE .u64) (fun n => (Lit.int .u64 n).wf = true))
    (h5 : FOpn P enc W fs 5 5 (intE .u64) (fun n => (Lit.int .u64 n).wf = true))
    (h6 : FOpn P enc W fs 6 6 (intE .u64) (fun n => (Lit.int .u64 n).wf = true))
    : Opn P enc W t S_api_PhdrE S_api_Phdr.wf := fun fuel cs x h => by
  have hl := opn_len ht h
  rw [hc] at hl
  obtain ⟨a0, w0, u0⟩ := opn_field ht h h0
  obtain ⟨a1, w1, u1⟩ := opn_field ht h h1
  obtain ⟨a2, w2, u2⟩ := opn_field ht h h2
  obtain ⟨a3, w3, u3⟩ := opn_field ht h h3
  obtain ⟨a4, w4, u4⟩ := opn_field ht h h4
  obtain ⟨a5, w5, u5⟩ := opn_field ht h h5
  obtain ⟨a6, w6, u6⟩ := opn_field ht h h6
  refine ⟨⟨a0, a1, a2, a3, a4, a5, a6⟩, ⟨w0, w1, w2, w3, w4, w5, w6⟩, vrs_all ?_⟩
  exact (vrs_next u0 rfl (vrs_next u1 rfl (vrs_next u2 rfl (vrs_next u3 rfl (vrs_next u4 rfl (vrs_next u5 rfl (vrs_next u6 rfl (vrs_end hl))))))))
structure S_api_Heads where
  Machine : Int
  Loads : Option (List S_api_Phdr)
  Dynamic : S_api_Phdr
  Relro : S_api_Phdr
deriving DecidableEq
set_option maxRecDepth 10000 in
def S_api_HeadsE : Enc S_api_Heads where
  e s := (intE .u16).e s.Machine ++ ((slE S_api_PhdrE).e s.Loads ++ (S_api_PhdrE.e s.Dynamic ++ (S_api_PhdrE.e s.Relro ++ [])))
  u := 16
  d := 1
  hu _ := by rfl
  hp k s := by
    have key : ∀ m, 1 ≤ m → (([.int .u16 (s.Machine), slV S_api_PhdrE (s.Loads), .int .u32 (s.Dynamic.Typ), .int .u32 (s.Dynamic.Flags), .int .u64 (s.Dynamic.Off), .int .u64 (s.Dynamic.Vaddr), .int .u64 (s.Dynamic.Filesz), .int .u64 (s.Dynamic.Memsz), .int .u64 (s.Dynamic.Align), .int .u32 (s.Relro.Typ), .int .u32 (s.Relro.Flags), .int .u64 (s.Relro.Off), .int .u64 (s.Relro.Vaddr), .int .u64 (s.Relro.Filesz), .int .u64 (s.Relro.Memsz), .int .u64 (s.Relro.Align)] : List Value)).all (pureV m) = true := fun m hm => by
      have hsl0 : ∀ o, pureV m (slV S_api_PhdrE o) = true := fun o => pure_sl (by rw [bltN, decide_eq_true_eq]; simp only [byteE_d, intE_d, boolE_d, strE_d, slE_d, S_api_PhdrE_d]; omega)
      simp [pure_int, pure_bool, pure_string, hsl0, bltN, byteE_d, intE_d, boolE_d, strE_d, slE_d, S_api_PhdrE_d]
      try omega
    exact key _ (Nat.le_add_left _ _)
  ho s := by
    show (([.int .u16 (s.Machine), slV S_api_PhdrE (s.Loads), .int .u32 (s.Dynamic.Typ), .int .u32 (s.Dynamic.Flags), .int .u64 (s.Dynamic.Off), .int .u64 (s.Dynamic.Vaddr), .int .u64 (s.Dynamic.Filesz), .int .u64 (s.Dynamic.Memsz), .int .u64 (s.Dynamic.Align), .int .u32 (s.Relro.Typ), .int .u32 (s.Relro.Flags), .int .u64 (s.Relro.Off), .int .u64 (s.Relro.Vaddr), .int .u64 (s.Relro.Filesz), .int .u64 (s.Relro.Memsz), .int .u64 (s.Relro.Align)] : List Value)).all oneC = true
    simp [oneC_int, oneC_bool, oneC_string, oneC_sl]
theorem S_api_HeadsE_u : S_api_HeadsE.u = 16 := rfl
theorem S_api_HeadsE_d : S_api_HeadsE.d = 1 := rfl
theorem S_api_HeadsE_e {s : S_api_Heads} : S_api_HeadsE.e s = [.int .u16 (s.Machine), slV S_api_PhdrE (s.Loads), .int .u32 (s.Dynamic.Typ), .int .u32 (s.Dynamic.Flags), .int .u64 (s.Dynamic.Off), .int .u64 (s.Dynamic.Vaddr), .int .u64 (s.Dynamic.Filesz), .int .u64 (s.Dynamic.Memsz), .int .u64 (s.Dynamic.Align), .int .u32 (s.Relro.Typ), .int .u32 (s.Relro.Flags), .int .u64 (s.Relro.Off), .int .u64 (s.Relro.Vaddr), .int .u64 (s.Relro.Filesz), .int .u64 (s.Relro.Memsz), .int .u64 (s.Relro.Align)] := rfl
def S_api_Heads.wf (s : S_api_Heads) : Prop := (fun n => (Lit.int .u16 n).wf = true) s.Machine ∧ (fun o => (lst o).length ≤ maxLen ∧ ∀ x ∈ lst o, S_api_Phdr.wf x) s.Loads ∧ S_api_Phdr.wf s.Dynamic ∧ S_api_Phdr.wf s.Relro
theorem opn_api_Heads {H : Type} {P : Program} {enc : TypeId × Value → H} {W : World} {t : TypeId} {fs : Array Field} (ht : P.underlying t = some (.struct fs)) (hc : P.cellsOf t = 16)
    (h0 : FOpn P enc W fs 0 0 (intE .u16) (fun n => (Lit.int .u16 n).wf = true))
    (h1 : FOpn P enc W fs 1 1 (slE S_api_PhdrE) (fun o => (lst o).length ≤ maxLen ∧ ∀ x ∈ lst o, S_api_Phdr.wf x))
    (h2 : FOpn P enc W fs 2 2 S_api_PhdrE S_api_Phdr.wf)
    (h3 : FOpn P enc W fs 3 9 S_api_PhdrE S_api_Phdr.wf)
    : Opn P enc W t S_api_HeadsE S_api_Heads.wf := fun fuel cs x h => by
  have hl := opn_len ht h
  rw [hc] at hl
  obtain ⟨a0, w0, u0⟩ := opn_field ht h h0
  obtain ⟨a1, w1, u1⟩ := opn_field ht h h1
  obtain ⟨a2, w2, u2⟩ := opn_field ht h h2
  obtain ⟨a3, w3, u3⟩ := opn_field ht h h3
  refine ⟨⟨a0, a1, a2, a3⟩, ⟨w0, w1, w2, w3⟩, vrs_all ?_⟩
  exact (vrs_next u0 rfl (vrs_next u1 rfl (vrs_next u2 rfl (vrs_next u3 rfl (vrs_end hl)))))
structure S_api_Area where
  Has : Bool
  At : Int
  Size : Int
deriving DecidableEq
set_option maxRecDepth 10000 in
def S_api_AreaE : Enc S_api_Area where
  e s := [.bool (s.Has), .int .u64 (s.At), .int .u64 (s.Size)]
  u := 3
  d := 0
  hu _ := by rfl
  hp k s := by
    have key : ∀ m, 0 ≤ m → (([.bool (s.Has), .int .u64 (s.At), .int .u64 (s.Size)] : List Value)).all (pureV m) = true := fun m hm => by
      simp [pure_int, pure_bool, pure_string, bltN, byteE_d, intE_d, boolE_d, strE_d, slE_d]
      try omega
    exact key _ (Nat.le_add_left _ _)
  ho s := by
    show (([.bool (s.Has), .int .u64 (s.At), .int .u64 (s.Size)] : List Value)).all oneC = true
    simp [oneC_int, oneC_bool, oneC_string, oneC_sl]
theorem S_api_AreaE_u : S_api_AreaE.u = 3 := rfl
theorem S_api_AreaE_d : S_api_AreaE.d = 0 := rfl
theorem S_api_AreaE_e {s : S_api_Area} : S_api_AreaE.e s = [.bool (s.Has), .int .u64 (s.At), .int .u64 (s.Size)] := rfl
def S_api_Area.wf (s : S_api_Area) : Prop := (fun _ => True) s.Has ∧ (fun n => (Lit.int .u64 n).wf = true) s.At ∧ (fun n => (Lit.int .u64 n).wf = true) s.Size
theorem opn_api_Area {H : Type} {P : Program} {enc : TypeId × Value → H} {W : World} {t : TypeId} {fs : Array Field} (ht : P.underlying t = some (.struct fs)) (hc : P.cellsOf t = 3)
    (h0 : FOpn P enc W fs 0 0 boolE (fun _ => True))
    (h1 : FOpn P enc W fs 1 1 (intE .u64) (fun n => (Lit.int .u64 n).wf = true))
    (h2 : FOpn P enc W fs 2 2 (intE .u64) (fun n => (Lit.int .u64 n).wf = true))
    : Opn P enc W t S_api_AreaE S_api_Area.wf := fun fuel cs x h => by
  have hl := opn_len ht h
  rw [hc] at hl
  obtain ⟨a0, w0, u0⟩ := opn_field ht h h0
  obtain ⟨a1, w1, u1⟩ := opn_field ht h h1
  obtain ⟨a2, w2, u2⟩ := opn_field ht h h2
  refine ⟨⟨a0, a1, a2⟩, ⟨w0, w1, w2⟩, vrs_all ?_⟩
  exact (vrs_next u0 rfl (vrs_next u1 rfl (vrs_next u2 rfl (vrs_end hl))))
structure S_api_Dyn where
  Soname : List UInt8
  Runpath : List UInt8
  Needed : Option (List (List UInt8))
  Symbolic : Bool
  Global : Bool
  Nodelete : Bool
  Strings : S_api_Area
  Symtab : Int
  Hash : Int
  GnuHash : Int
  Versym : Int
  Verdef : Int
  Verneed : Int
  Verdefs : Int
  Verneeds : Int
  Rel : S_api_Area
  Rela : S_api_Area
  Plt : S_api_Area
  Relr : S_api_Area
  Packed : S_api_Area
  PltRela : Bool
  PackedRela : Bool
  Init : S_api_Area
  Fini : S_api_Area
deriving DecidableEq
set_option maxRecDepth 10000 in
def S_api_DynE : Enc S_api_Dyn where
  e s := strE.e s.Soname ++ (strE.e s.Runpath ++ ((slE strE).e s.Needed ++ (boolE.e s.Symbolic ++ (boolE.e s.Global ++ (boolE.e s.Nodelete ++ (S_api_AreaE.e s.Strings ++ ((intE .u64).e s.Symtab ++ ((intE .u64).e s.Hash ++ ((intE .u64).e s.GnuHash ++ ((intE .u64).e s.Versym ++ ((intE .u64).e s.Verdef ++ ((intE .u64).e s.Verneed ++ ((intE .u64).e s.Verdefs ++ ((intE .u64).e s.Verneeds ++ (S_api_AreaE.e s.Rel ++ (S_api_AreaE.e s.Rela ++ (S_api_AreaE.e s.Plt ++ (S_api_AreaE.e s.Relr ++ (S_api_AreaE.e s.Packed ++ (boolE.e s.PltRela ++ (boolE.e s.PackedRela ++ (S_api_AreaE.e s.Init ++ (S_api_AreaE.e s.Fini ++ [])))))))))))))))))))))))
  u := 40
  d := 1
  hu _ := by rfl
  hp k s := by
    have key : ∀ m, 1 ≤ m → (([strV (s.Soname), strV (s.Runpath), slV strE (s.Needed), .bool (s.Symbolic), .bool (s.Global), .bool (s.Nodelete), .bool (s.Strings.Has), .int .u64 (s.Strings.At), .int .u64 (s.Strings.Size), .int .u64 (s.Symtab), .int .u64 (s.Hash), .int .u64 (s.GnuHash), .int .u64 (s.Versym), .int .u64 (s.Verdef), .int .u64 (s.Verneed), .int .u64 (s.Verdefs), .int .u64 (s.Verneeds), .bool (s.Rel.Has), .int .u64 (s.Rel.At), .int .u64 (s.Rel.Size), .bool (s.Rela.Has), .int .u64 (s.Rela.At), .int .u64 (s.Rela.Size), .bool (s.Plt.Has), .int .u64 (s.Plt.At), .int .u64 (s.Plt.Size), .bool (s.Relr.Has), .int .u64 (s.Relr.At), .int .u64 (s.Relr.Size), .bool (s.Packed.Has), .int .u64 (s.Packed.At), .int .u64 (s.Packed.Size), .bool (s.PltRela), .bool (s.PackedRela), .bool (s.Init.Has), .int .u64 (s.Init.At), .int .u64 (s.Init.Size), .bool (s.Fini.Has), .int .u64 (s.Fini.At), .int .u64 (s.Fini.Size)] : List Value)).all (pureV m) = true := fun m hm => by
      have hsl0 : ∀ o, pureV m (slV strE o) = true := fun o => pure_sl (by rw [bltN, decide_eq_true_eq]; simp only [byteE_d, intE_d, boolE_d, strE_d, slE_d]; omega)
      simp [pure_int, pure_bool, pure_string, hsl0, bltN, byteE_d, intE_d, boolE_d, strE_d, slE_d]
      try omega
    exact key _ (Nat.le_add_left _ _)
  ho s := by
    show (([strV (s.Soname), strV (s.Runpath), slV strE (s.Needed), .bool (s.Symbolic), .bool (s.Global), .bool (s.Nodelete), .bool (s.Strings.Has), .int .u64 (s.Strings.At), .int .u64 (s.Strings.Size), .int .u64 (s.Symtab), .int .u64 (s.Hash), .int .u64 (s.GnuHash), .int .u64 (s.Versym), .int .u64 (s.Verdef), .int .u64 (s.Verneed), .int .u64 (s.Verdefs), .int .u64 (s.Verneeds), .bool (s.Rel.Has), .int .u64 (s.Rel.At), .int .u64 (s.Rel.Size), .bool (s.Rela.Has), .int .u64 (s.Rela.At), .int .u64 (s.Rela.Size), .bool (s.Plt.Has), .int .u64 (s.Plt.At), .int .u64 (s.Plt.Size), .bool (s.Relr.Has), .int .u64 (s.Relr.At), .int .u64 (s.Relr.Size), .bool (s.Packed.Has), .int .u64 (s.Packed.At), .int .u64 (s.Packed.Size), .bool (s.PltRela), .bool (s.PackedRela), .bool (s.Init.Has), .int .u64 (s.Init.At), .int .u64 (s.Init.Size), .bool (s.Fini.Has), .int .u64 (s.Fini.At), .int .u64 (s.Fini.Size)] : List Value)).all oneC = true
    simp [oneC_int, oneC_bool, oneC_string, oneC_sl]
theorem S_api_DynE_u : S_api_DynE.u = 40 := rfl
theorem S_api_DynE_d : S_api_DynE.d = 1 := rfl
theorem S_api_DynE_e {s : S_api_Dyn} : S_api_DynE.e s = [strV (s.Soname), strV (s.Runpath), slV strE (s.Needed), .bool (s.Symbolic), .bool (s.Global), .bool (s.Nodelete), .bool (s.Strings.Has), .int .u64 (s.Strings.At), .int .u64 (s.Strings.Size), .int .u64 (s.Symtab), .int .u64 (s.Hash), .int .u64 (s.GnuHash), .int .u64 (s.Versym), .int .u64 (s.Verdef), .int .u64 (s.Verneed), .int .u64 (s.Verdefs), .int .u64 (s.Verneeds), .bool (s.Rel.Has), .int .u64 (s.Rel.At), .int .u64 (s.Rel.Size), .bool (s.Rela.Has), .int .u64 (s.Rela.At), .int .u64 (s.Rela.Size), .bool (s.Plt.Has), .int .u64 (s.Plt.At), .int .u64 (s.Plt.Size), .bool (s.Relr.Has), .int .u64 (s.Relr.At), .int .u64 (s.Relr.Size), .bool (s.Packed.Has), .int .u64 (s.Packed.At), .int .u64 (s.Packed.Size), .bool (s.PltRela), .bool (s.PackedRela), .bool (s.Init.Has), .int .u64 (s.Init.At), .int .u64 (s.Init.Size), .bool (s.Fini.Has), .int .u64 (s.Fini.At), .int .u64 (s.Fini.Size)] := rfl
def S_api_Dyn.wf (s : S_api_Dyn) : Prop := (fun s => s.length ≤ maxLen) s.Soname ∧ (fun s => s.length ≤ maxLen) s.Runpath ∧ (fun o => (lst o).length ≤ maxLen ∧ ∀ x ∈ lst o, (fun s => s.length ≤ maxLen) x) s.Needed ∧ (fun _ => True) s.Symbolic ∧ (fun _ => True) s.Global ∧ (fun _ => True) s.Nodelete ∧ S_api_Area.wf s.Strings ∧ (fun n => (Lit.int .u64 n).wf = true) s.Symtab ∧ (fun n => (Lit.int .u64 n).wf = true) s.Hash ∧ (fun n => (Lit.int .u64 n).wf = true) s.GnuHash ∧ (fun n => (Lit.int .u64 n).wf = true) s.Versym ∧ (fun n => (Lit.int .u64 n).wf = true) s.Verdef ∧ (fun n => (Lit.int .u64 n).wf = true) s.Verneed ∧ (fun n => (Lit.int .u64 n).wf = true) s.Verdefs ∧ (fun n => (Lit.int .u64 n).wf = true) s.Verneeds ∧ S_api_Area.wf s.Rel ∧ S_api_Area.wf s.Rela ∧ S_api_Area.wf s.Plt ∧ S_api_Area.wf s.Relr ∧ S_api_Area.wf s.Packed ∧ (fun _ => True) s.PltRela ∧ (fun _ => True) s.PackedRela ∧ S_api_Area.wf s.Init ∧ S_api_Area.wf s.Fini
theorem opn_api_Dyn {H : Type} {P : Program} {enc : TypeId × Value → H} {W : World} {t : TypeId} {fs : Array Field} (ht : P.underlying t = some (.struct fs)) (hc : P.cellsOf t = 40)
    (h0 : FOpn P enc W fs 0 0 strE (fun s => s.length ≤ maxLen))
    (h1 : FOpn P enc W fs 1 1 strE (fun s => s.length ≤ maxLen))
    (h2 : FOpn P enc W fs 2 2 (slE strE) (fun o => (lst o).length ≤ maxLen ∧ ∀ x ∈ lst o, (fun s => s.length ≤ maxLen) x))
    (h3 : FOpn P enc W fs 3 3 boolE (fun _ => True))
    (h4 : FOpn P enc W fs 4 4 boolE (fun _ => True))
    (h5 : FOpn P enc W fs 5 5 boolE (fun _ => True))
    (h6 : FOpn P enc W fs 6 6 S_api_AreaE S_api_Area.wf)
    (h7 : FOpn P enc W fs 7 9 (intE .u64) (fun n => (Lit.int .u64 n).wf = true))
    (h8 : FOpn P enc W fs 8 10 (intE .u64) (fun n => (Lit.int .u64 n).wf = true))
    (h9 : FOpn P enc W fs 9 11 (intE .u64) (fun n => (Lit.int .u64 n).wf = true))
    (h10 : FOpn P enc W fs 10 12 (intE .u64) (fun n => (Lit.int .u64 n).wf = true))
    (h11 : FOpn P enc W fs 11 13 (intE .u64) (fun n => (Lit.int .u64 n).wf = true))
    (h12 : FOpn P enc W fs 12 14 (intE .u64) (fun n => (Lit.int .u64 n).wf = true))
    (h13 : FOpn P enc W fs 13 15 (intE .u64) (fun n => (Lit.int .u64 n).wf = true))
    (h14 : FOpn P enc W fs 14 16 (intE .u64) (fun n => (Lit.int .u64 n).wf = true))
    (h15 : FOpn P enc W fs 15 17 S_api_AreaE S_api_Area.wf)
    (h16 : FOpn P enc W fs 16 20 S_api_AreaE S_api_Area.wf)
    (h17 : FOpn P enc W fs 17 23 S_api_AreaE S_api_Area.wf)
    (h18 : FOpn P enc W fs 18 26 S_api_AreaE S_api_Area.wf)
    (h19 : FOpn P enc W fs 19 29 S_api_AreaE S_api_Area.wf)
    (h20 : FOpn P enc W fs 20 32 boolE (fun _ => True))
    (h21 : FOpn P enc W fs 21 33 boolE (fun _ => True))
    (h22 : FOpn P enc W fs 22 34 S_api_AreaE S_api_Area.wf)
    (h23 : FOpn P enc W fs 23 37 S_api_AreaE S_api_Area.wf)
    : Opn P enc W t S_api_DynE S_api_Dyn.wf := fun fuel cs x h => by
  have hl := opn_len ht h
  rw [hc] at hl
  obtain ⟨a0, w0, u0⟩ := opn_field ht h h0
  obtain ⟨a1, w1, u1⟩ := opn_field ht h h1
  obtain ⟨a2, w2, u2⟩ := opn_field ht h h2
  obtain ⟨a3, w3, u3⟩ := opn_field ht h h3
  obtain ⟨a4, w4, u4⟩ := opn_field ht h h4
  obtain ⟨a5, w5, u5⟩ := opn_field ht h h5
  obtain ⟨a6, w6, u6⟩ := opn_field ht h h6
  obtain ⟨a7, w7, u7⟩ := opn_field ht h h7
  obtain ⟨a8, w8, u8⟩ := opn_field ht h h8
  obtain ⟨a9, w9, u9⟩ := opn_field ht h h9
  obtain ⟨a10, w10, u10⟩ := opn_field ht h h10
  obtain ⟨a11, w11, u11⟩ := opn_field ht h h11
  obtain ⟨a12, w12, u12⟩ := opn_field ht h h12
  obtain ⟨a13, w13, u13⟩ := opn_field ht h h13
  obtain ⟨a14, w14, u14⟩ := opn_field ht h h14
  obtain ⟨a15, w15, u15⟩ := opn_field ht h h15
  obtain ⟨a16, w16, u16⟩ := opn_field ht h h16
  obtain ⟨a17, w17, u17⟩ := opn_field ht h h17
  obtain ⟨a18, w18, u18⟩ := opn_field ht h h18
  obtain ⟨a19, w19, u19⟩ := opn_field ht h h19
  obtain ⟨a20, w20, u20⟩ := opn_field ht h h20
  obtain ⟨a21, w21, u21⟩ := opn_field ht h h21
  obtain ⟨a22, w22, u22⟩ := opn_field ht h h22
  obtain ⟨a23, w23, u23⟩ := opn_field ht h h23
  refine ⟨⟨a0, a1, a2, a3, a4, a5, a6, a7, a8, a9, a10, a11, a12, a13, a14, a15, a16, a17, a18, a19, a20, a21, a22, a23⟩, ⟨w0, w1, w2, w3, w4, w5, w6, w7, w8, w9, w10, w11, w12, w13, w14, w15, w16, w17, w18, w19, w20, w21, w22, w23⟩, vrs_all ?_⟩
  exact (vrs_next u0 rfl (vrs_next u1 rfl (vrs_next u2 rfl (vrs_next u3 rfl (vrs_next u4 rfl (vrs_next u5 rfl (vrs_next u6 rfl (vrs_next u7 rfl (vrs_next u8 rfl (vrs_next u9 rfl (vrs_next u10 rfl (vrs_next u11 rfl (vrs_next u12 rfl (vrs_next u13 rfl (vrs_next u14 rfl (vrs_next u15 rfl (vrs_next u16 rfl (vrs_next u17 rfl (vrs_next u18 rfl (vrs_next u19 rfl (vrs_next u20 rfl (vrs_next u21 rfl (vrs_next u22 rfl (vrs_next u23 rfl (vrs_end hl)))))))))))))))))))))))))
structure S_api_Sym where
  Name : List UInt8
  Ver : List UInt8
  Hidden : Bool
  Bind : Int
  Defined : Bool
  Value : Int
  Size : Int
deriving DecidableEq
set_option maxRecDepth 10000 in
def S_api_SymE : Enc S_api_Sym where
  e s := [strV (s.Name), strV (s.Ver), .bool (s.Hidden), .int .i64 (s.Bind), .bool (s.Defined), .int .u64 (s.Value), .int .u64 (s.Size)]
  u := 7
  d := 0
  hu _ := by rfl
  hp k s := by
    have key : ∀ m, 0 ≤ m → (([strV (s.Name), strV (s.Ver), .bool (s.Hidden), .int .i64 (s.Bind), .bool (s.Defined), .int .u64 (s.Value), .int .u64 (s.Size)] : List Value)).all (pureV m) = true := fun m hm => by
      simp [pure_int, pure_bool, pure_string, bltN, byteE_d, intE_d, boolE_d, strE_d, slE_d]
      try omega
    exact key _ (Nat.le_add_left _ _)
  ho s := by
    show (([strV (s.Name), strV (s.Ver), .bool (s.Hidden), .int .i64 (s.Bind), .bool (s.Defined), .int .u64 (s.Value), .int .u64 (s.Size)] : List Value)).all oneC = true
    simp [oneC_int, oneC_bool, oneC_string, oneC_sl]
theorem S_api_SymE_u : S_api_SymE.u = 7 := rfl
theorem S_api_SymE_d : S_api_SymE.d = 0 := rfl
theorem S_api_SymE_e {s : S_api_Sym} : S_api_SymE.e s = [strV (s.Name), strV (s.Ver), .bool (s.Hidden), .int .i64 (s.Bind), .bool (s.Defined), .int .u64 (s.Value), .int .u64 (s.Size)] := rfl
def S_api_Sym.wf (s : S_api_Sym) : Prop := (fun s => s.length ≤ maxLen) s.Name ∧ (fun s => s.length ≤ maxLen) s.Ver ∧ (fun _ => True) s.Hidden ∧ (fun n => (Lit.int .i64 n).wf = true) s.Bind ∧ (fun _ => True) s.Defined ∧ (fun n => (Lit.int .u64 n).wf = true) s.Value ∧ (fun n => (Lit.int .u64 n).wf = true) s.Size
theorem opn_api_Sym {H : Type} {P : Program} {enc : TypeId × Value → H} {W : World} {t : TypeId} {fs : Array Field} (ht : P.underlying t = some (.struct fs)) (hc : P.cellsOf t = 7)
    (h0 : FOpn P enc W fs 0 0 strE (fun s => s.length ≤ maxLen))
    (h1 : FOpn P enc W fs 1 1 strE (fun s => s.length ≤ maxLen))
    (h2 : FOpn P enc W fs 2 2 boolE (fun _ => True))
    (h3 : FOpn P enc W fs 3 3 (intE .i64) (fun n => (Lit.int .i64 n).wf = true))
    (h4 : FOpn P enc W fs 4 4 boolE (fun _ => True))
    (h5 : FOpn P enc W fs 5 5 (intE .u64) (fun n => (Lit.int .u64 n).wf = true))
    (h6 : FOpn P enc W fs 6 6 (intE .u64) (fun n => (Lit.int .u64 n).wf = true))
    : Opn P enc W t S_api_SymE S_api_Sym.wf := fun fuel cs x h => by
  have hl := opn_len ht h
  rw [hc] at hl
  obtain ⟨a0, w0, u0⟩ := opn_field ht h h0
  obtain ⟨a1, w1, u1⟩ := opn_field ht h h1
  obtain ⟨a2, w2, u2⟩ := opn_field ht h h2
  obtain ⟨a3, w3, u3⟩ := opn_field ht h h3
  obtain ⟨a4, w4, u4⟩ := opn_field ht h h4
  obtain ⟨a5, w5, u5⟩ := opn_field ht h h5
  obtain ⟨a6, w6, u6⟩ := opn_field ht h h6
  refine ⟨⟨a0, a1, a2, a3, a4, a5, a6⟩, ⟨w0, w1, w2, w3, w4, w5, w6⟩, vrs_all ?_⟩
  exact (vrs_next u0 rfl (vrs_next u1 rfl (vrs_next u2 rfl (vrs_next u3 rfl (vrs_next u4 rfl (vrs_next u5 rfl (vrs_next u6 rfl (vrs_end hl))))))))
structure S_api_Rel where
  At : Int
  Typ : Int
  Sym : Int
  Add : Int
  Has : Bool
deriving DecidableEq
set_option maxRecDepth 10000 in
def S_api_RelE : Enc S_api_Rel where
  e s := [.int .u64 (s.At), .int .u32 (s.Typ), .int .u32 (s.Sym), .int .i64 (s.Add), .bool (s.Has)]
  u := 5
  d := 0
  hu _ := by rfl
  hp k s := by
    have key : ∀ m, 0 ≤ m → (([.int .u64 (s.At), .int .u32 (s.Typ), .int .u32 (s.Sym), .int .i64 (s.Add), .bool (s.Has)] : List Value)).all (pureV m) = true := fun m hm => by
      simp [pure_int, pure_bool, pure_string, bltN, byteE_d, intE_d, boolE_d, strE_d, slE_d]
      try omega
    exact key _ (Nat.le_add_left _ _)
  ho s := by
    show (([.int .u64 (s.At), .int .u32 (s.Typ), .int .u32 (s.Sym), .int .i64 (s.Add), .bool (s.Has)] : List Value)).all oneC = true
    simp [oneC_int, oneC_bool, oneC_string, oneC_sl]
theorem S_api_RelE_u : S_api_RelE.u = 5 := rfl
theorem S_api_RelE_d : S_api_RelE.d = 0 := rfl
theorem S_api_RelE_e {s : S_api_Rel} : S_api_RelE.e s = [.int .u64 (s.At), .int .u32 (s.Typ), .int .u32 (s.Sym), .int .i64 (s.Add), .bool (s.Has)] := rfl
def S_api_Rel.wf (s : S_api_Rel) : Prop := (fun n => (Lit.int .u64 n).wf = true) s.At ∧ (fun n => (Lit.int .u32 n).wf = true) s.Typ ∧ (fun n => (Lit.int .u32 n).wf = true) s.Sym ∧ (fun n => (Lit.int .i64 n).wf = true) s.Add ∧ (fun _ => True) s.Has
theorem opn_api_Rel {H : Type} {P : Program} {enc : TypeId × Value → H} {W : World} {t : TypeId} {fs : Array Field} (ht : P.underlying t = some (.struct fs)) (hc : P.cellsOf t = 5)
    (h0 : FOpn P enc W fs 0 0 (intE .u64) (fun n => (Lit.int .u64 n).wf = true))
    (h1 : FOpn P enc W fs 1 1 (intE .u32) (fun n => (Lit.int .u32 n).wf = true))
    (h2 : FOpn P enc W fs 2 2 (intE .u32) (fun n => (Lit.int .u32 n).wf = true))
    (h3 : FOpn P enc W fs 3 3 (intE .i64) (fun n => (Lit.int .i64 n).wf = true))
    (h4 : FOpn P enc W fs 4 4 boolE (fun _ => True))
    : Opn P enc W t S_api_RelE S_api_Rel.wf := fun fuel cs x h => by
  have hl := opn_len ht h
  rw [hc] at hl
  obtain ⟨a0, w0, u0⟩ := opn_field ht h h0
  obtain ⟨a1, w1, u1⟩ := opn_field ht h h1
  obtain ⟨a2, w2, u2⟩ := opn_field ht h h2
  obtain ⟨a3, w3, u3⟩ := opn_field ht h h3
  obtain ⟨a4, w4, u4⟩ := opn_field ht h h4
  refine ⟨⟨a0, a1, a2, a3, a4⟩, ⟨w0, w1, w2, w3, w4⟩, vrs_all ?_⟩
  exact (vrs_next u0 rfl (vrs_next u1 rfl (vrs_next u2 rfl (vrs_next u3 rfl (vrs_next u4 rfl (vrs_end hl))))))
structure S_api_Lib where
  Heads : S_api_Heads
  Dyn : S_api_Dyn
  Syms : Option (List S_api_Sym)
  Rels : Option (List S_api_Rel)
  Init : Int
  Fini : Int
deriving DecidableEq
set_option maxRecDepth 10000 in
def S_api_LibE : Enc S_api_Lib where
  e s := S_api_HeadsE.e s.Heads ++ (S_api_DynE.e s.Dyn ++ ((slE S_api_SymE).e s.Syms ++ ((slE S_api_RelE).e s.Rels ++ ((intE .i64).e s.Init ++ ((intE .i64).e s.Fini ++ [])))))
  u := 60
  d := 1
  hu _ := by rfl
  hp k s := by
    have key : ∀ m, 1 ≤ m → (([.int .u16 (s.Heads.Machine), slV S_api_PhdrE (s.Heads.Loads), .int .u32 (s.Heads.Dynamic.Typ), .int .u32 (s.Heads.Dynamic.Flags), .int .u64 (s.Heads.Dynamic.Off), .int .u64 (s.Heads.Dynamic.Vaddr), .int .u64 (s.Heads.Dynamic.Filesz), .int .u64 (s.Heads.Dynamic.Memsz), .int .u64 (s.Heads.Dynamic.Align), .int .u32 (s.Heads.Relro.Typ), .int .u32 (s.Heads.Relro.Flags), .int .u64 (s.Heads.Relro.Off), .int .u64 (s.Heads.Relro.Vaddr), .int .u64 (s.Heads.Relro.Filesz), .int .u64 (s.Heads.Relro.Memsz), .int .u64 (s.Heads.Relro.Align), strV (s.Dyn.Soname), strV (s.Dyn.Runpath), slV strE (s.Dyn.Needed), .bool (s.Dyn.Symbolic), .bool (s.Dyn.Global), .bool (s.Dyn.Nodelete), .bool (s.Dyn.Strings.Has), .int .u64 (s.Dyn.Strings.At), .int .u64 (s.Dyn.Strings.Size), .int .u64 (s.Dyn.Symtab), .int .u64 (s.Dyn.Hash), .int .u64 (s.Dyn.GnuHash), .int .u64 (s.Dyn.Versym), .int .u64 (s.Dyn.Verdef), .int .u64 (s.Dyn.Verneed), .int .u64 (s.Dyn.Verdefs), .int .u64 (s.Dyn.Verneeds), .bool (s.Dyn.Rel.Has), .int .u64 (s.Dyn.Rel.At), .int .u64 (s.Dyn.Rel.Size), .bool (s.Dyn.Rela.Has), .int .u64 (s.Dyn.Rela.At), .int .u64 (s.Dyn.Rela.Size), .bool (s.Dyn.Plt.Has), .int .u64 (s.Dyn.Plt.At), .int .u64 (s.Dyn.Plt.Size), .bool (s.Dyn.Relr.Has), .int .u64 (s.Dyn.Relr.At), .int .u64 (s.Dyn.Relr.Size), .bool (s.Dyn.Packed.Has), .int .u64 (s.Dyn.Packed.At), .int .u64 (s.Dyn.Packed.Size), .bool (s.Dyn.PltRela), .bool (s.Dyn.PackedRela), .bool (s.Dyn.Init.Has), .int .u64 (s.Dyn.Init.At), .int .u64 (s.Dyn.Init.Size), .bool (s.Dyn.Fini.Has), .int .u64 (s.Dyn.Fini.At), .int .u64 (s.Dyn.Fini.Size), slV S_api_SymE (s.Syms), slV S_api_RelE (s.Rels), .int .i64 (s.Init), .int .i64 (s.Fini)] : List Value)).all (pureV m) = true := fun m hm => by
      have hsl0 : ∀ o, pureV m (slV S_api_PhdrE o) = true := fun o => pure_sl (by rw [bltN, decide_eq_true_eq]; simp only [byteE_d, intE_d, boolE_d, strE_d, slE_d, S_api_PhdrE_d, S_api_RelE_d, S_api_SymE_d]; omega)
      have hsl1 : ∀ o, pureV m (slV S_api_RelE o) = true := fun o => pure_sl (by rw [bltN, decide_eq_true_eq]; simp only [byteE_d, intE_d, boolE_d, strE_d, slE_d, S_api_PhdrE_d, S_api_RelE_d, S_api_SymE_d]; omega)
      have hsl2 : ∀ o, pureV m (slV S_api_SymE o) = true := fun o => pure_sl (by rw [bltN, decide_eq_true_eq]; simp only [byteE_d, intE_d, boolE_d, strE_d, slE_d, S_api_PhdrE_d, S_api_RelE_d, S_api_SymE_d]; omega)
      have hsl3 : ∀ o, pureV m (slV strE o) = true := fun o => pure_sl (by rw [bltN, decide_eq_true_eq]; simp only [byteE_d, intE_d, boolE_d, strE_d, slE_d, S_api_PhdrE_d, S_api_RelE_d, S_api_SymE_d]; omega)
      simp [pure_int, pure_bool, pure_string, hsl0, hsl1, hsl2, hsl3, bltN, byteE_d, intE_d, boolE_d, strE_d, slE_d, S_api_PhdrE_d, S_api_RelE_d, S_api_SymE_d]
      try omega
    exact key _ (Nat.le_add_left _ _)
  ho s := by
    show (([.int .u16 (s.Heads.Machine), slV S_api_PhdrE (s.Heads.Loads), .int .u32 (s.Heads.Dynamic.Typ), .int .u32 (s.Heads.Dynamic.Flags), .int .u64 (s.Heads.Dynamic.Off), .int .u64 (s.Heads.Dynamic.Vaddr), .int .u64 (s.Heads.Dynamic.Filesz), .int .u64 (s.Heads.Dynamic.Memsz), .int .u64 (s.Heads.Dynamic.Align), .int .u32 (s.Heads.Relro.Typ), .int .u32 (s.Heads.Relro.Flags), .int .u64 (s.Heads.Relro.Off), .int .u64 (s.Heads.Relro.Vaddr), .int .u64 (s.Heads.Relro.Filesz), .int .u64 (s.Heads.Relro.Memsz), .int .u64 (s.Heads.Relro.Align), strV (s.Dyn.Soname), strV (s.Dyn.Runpath), slV strE (s.Dyn.Needed), .bool (s.Dyn.Symbolic), .bool (s.Dyn.Global), .bool (s.Dyn.Nodelete), .bool (s.Dyn.Strings.Has), .int .u64 (s.Dyn.Strings.At), .int .u64 (s.Dyn.Strings.Size), .int .u64 (s.Dyn.Symtab), .int .u64 (s.Dyn.Hash), .int .u64 (s.Dyn.GnuHash), .int .u64 (s.Dyn.Versym), .int .u64 (s.Dyn.Verdef), .int .u64 (s.Dyn.Verneed), .int .u64 (s.Dyn.Verdefs), .int .u64 (s.Dyn.Verneeds), .bool (s.Dyn.Rel.Has), .int .u64 (s.Dyn.Rel.At), .int .u64 (s.Dyn.Rel.Size), .bool (s.Dyn.Rela.Has), .int .u64 (s.Dyn.Rela.At), .int .u64 (s.Dyn.Rela.Size), .bool (s.Dyn.Plt.Has), .int .u64 (s.Dyn.Plt.At), .int .u64 (s.Dyn.Plt.Size), .bool (s.Dyn.Relr.Has), .int .u64 (s.Dyn.Relr.At), .int .u64 (s.Dyn.Relr.Size), .bool (s.Dyn.Packed.Has), .int .u64 (s.Dyn.Packed.At), .int .u64 (s.Dyn.Packed.Size), .bool (s.Dyn.PltRela), .bool (s.Dyn.PackedRela), .bool (s.Dyn.Init.Has), .int .u64 (s.Dyn.Init.At), .int .u64 (s.Dyn.Init.Size), .bool (s.Dyn.Fini.Has), .int .u64 (s.Dyn.Fini.At), .int .u64 (s.Dyn.Fini.Size), slV S_api_SymE (s.Syms), slV S_api_RelE (s.Rels), .int .i64 (s.Init), .int .i64 (s.Fini)] : List Value)).all oneC = true
    simp [oneC_int, oneC_bool, oneC_string, oneC_sl]
theorem S_api_LibE_u : S_api_LibE.u = 60 := rfl
theorem S_api_LibE_d : S_api_LibE.d = 1 := rfl
theorem S_api_LibE_e {s : S_api_Lib} : S_api_LibE.e s = [.int .u16 (s.Heads.Machine), slV S_api_PhdrE (s.Heads.Loads), .int .u32 (s.Heads.Dynamic.Typ), .int .u32 (s.Heads.Dynamic.Flags), .int .u64 (s.Heads.Dynamic.Off), .int .u64 (s.Heads.Dynamic.Vaddr), .int .u64 (s.Heads.Dynamic.Filesz), .int .u64 (s.Heads.Dynamic.Memsz), .int .u64 (s.Heads.Dynamic.Align), .int .u32 (s.Heads.Relro.Typ), .int .u32 (s.Heads.Relro.Flags), .int .u64 (s.Heads.Relro.Off), .int .u64 (s.Heads.Relro.Vaddr), .int .u64 (s.Heads.Relro.Filesz), .int .u64 (s.Heads.Relro.Memsz), .int .u64 (s.Heads.Relro.Align), strV (s.Dyn.Soname), strV (s.Dyn.Runpath), slV strE (s.Dyn.Needed), .bool (s.Dyn.Symbolic), .bool (s.Dyn.Global), .bool (s.Dyn.Nodelete), .bool (s.Dyn.Strings.Has), .int .u64 (s.Dyn.Strings.At), .int .u64 (s.Dyn.Strings.Size), .int .u64 (s.Dyn.Symtab), .int .u64 (s.Dyn.Hash), .int .u64 (s.Dyn.GnuHash), .int .u64 (s.Dyn.Versym), .int .u64 (s.Dyn.Verdef), .int .u64 (s.Dyn.Verneed), .int .u64 (s.Dyn.Verdefs), .int .u64 (s.Dyn.Verneeds), .bool (s.Dyn.Rel.Has), .int .u64 (s.Dyn.Rel.At), .int .u64 (s.Dyn.Rel.Size), .bool (s.Dyn.Rela.Has), .int .u64 (s.Dyn.Rela.At), .int .u64 (s.Dyn.Rela.Size), .bool (s.Dyn.Plt.Has), .int .u64 (s.Dyn.Plt.At), .int .u64 (s.Dyn.Plt.Size), .bool (s.Dyn.Relr.Has), .int .u64 (s.Dyn.Relr.At), .int .u64 (s.Dyn.Relr.Size), .bool (s.Dyn.Packed.Has), .int .u64 (s.Dyn.Packed.At), .int .u64 (s.Dyn.Packed.Size), .bool (s.Dyn.PltRela), .bool (s.Dyn.PackedRela), .bool (s.Dyn.Init.Has), .int .u64 (s.Dyn.Init.At), .int .u64 (s.Dyn.Init.Size), .bool (s.Dyn.Fini.Has), .int .u64 (s.Dyn.Fini.At), .int .u64 (s.Dyn.Fini.Size), slV S_api_SymE (s.Syms), slV S_api_RelE (s.Rels), .int .i64 (s.Init), .int .i64 (s.Fini)] := rfl
def S_api_Lib.wf (s : S_api_Lib) : Prop := S_api_Heads.wf s.Heads ∧ S_api_Dyn.wf s.Dyn ∧ (fun o => (lst o).length ≤ maxLen ∧ ∀ x ∈ lst o, S_api_Sym.wf x) s.Syms ∧ (fun o => (lst o).length ≤ maxLen ∧ ∀ x ∈ lst o, S_api_Rel.wf x) s.Rels ∧ (fun n => (Lit.int .i64 n).wf = true) s.Init ∧ (fun n => (Lit.int .i64 n).wf = true) s.Fini
theorem opn_api_Lib {H : Type} {P : Program} {enc : TypeId × Value → H} {W : World} {t : TypeId} {fs : Array Field} (ht : P.underlying t = some (.struct fs)) (hc : P.cellsOf t = 60)
    (h0 : FOpn P enc W fs 0 0 S_api_HeadsE S_api_Heads.wf)
    (h1 : FOpn P enc W fs 1 16 S_api_DynE S_api_Dyn.wf)
    (h2 : FOpn P enc W fs 2 56 (slE S_api_SymE) (fun o => (lst o).length ≤ maxLen ∧ ∀ x ∈ lst o, S_api_Sym.wf x))
    (h3 : FOpn P enc W fs 3 57 (slE S_api_RelE) (fun o => (lst o).length ≤ maxLen ∧ ∀ x ∈ lst o, S_api_Rel.wf x))
    (h4 : FOpn P enc W fs 4 58 (intE .i64) (fun n => (Lit.int .i64 n).wf = true))
    (h5 : FOpn P enc W fs 5 59 (intE .i64) (fun n => (Lit.int .i64 n).wf = true))
    : Opn P enc W t S_api_LibE S_api_Lib.wf := fun fuel cs x h => by
  have hl := opn_len ht h
  rw [hc] at hl
  obtain ⟨a0, w0, u0⟩ := opn_field ht h h0
  obtain ⟨a1, w1, u1⟩ := opn_field ht h h1
  obtain ⟨a2, w2, u2⟩ := opn_field ht h h2
  obtain ⟨a3, w3, u3⟩ := opn_field ht h h3
  obtain ⟨a4, w4, u4⟩ := opn_field ht h h4
  obtain ⟨a5, w5, u5⟩ := opn_field ht h h5
  refine ⟨⟨a0, a1, a2, a3, a4, a5⟩, ⟨w0, w1, w2, w3, w4, w5⟩, vrs_all ?_⟩
  exact (vrs_next u0 rfl (vrs_next u1 rfl (vrs_next u2 rfl (vrs_next u3 rfl (vrs_next u4 rfl (vrs_next u5 rfl (vrs_end hl)))))))
end Go.Proofs.YtdajdgjacajemaaGreat
